/- Texts One, Str, Built, Mac, Wire, Par, Digs, Chn, Shelf, Plan, Lift, merged. -/
import Derived.Lib.BufferWrite
import Derived.Lib.AppendStr
import Derived.Lib.SlBytesConst
import Derived.Shelf.Strings.OnBuilder
import Derived.ProofKit
import Derived.OpenShut
import Derived.ShutString
import Derived.SliceStrings
import Derived.ChangeMaps5
import Derived.ChangeOld
import Derived.LaidLaws
import Derived.LaidHandle
import Derived.LaidMore
import Derived.Lib.LaidTab
import Derived.MakeChecks
import Derived.SevenTiedAt
import Derived.Lib.SmallJoins
import Derived.SizedLaws
import Derived.Test.YtndlihclgdkpaaaGreatDoorTie
import Derived.Test.YtndlihclgdkpaaaGreatDoorGa
/- One-time signatures in plain Lean (chapter 12): no program is named here. -/
set_option linter.unusedVariables false
set_option linter.unusedSimpArgs false
open Go.Lib (hid)
set_option maxHeartbeats 4000000
set_option maxRecDepth 100000
namespace Go.Proofs.YtndlihclgdkpaaaGreatDoor
namespace One

def num (n:Nat):List Nat:=if h:n<128 then [n] else (n % 128+128)::num (n/128)
termination_by n
decreasing_by omega
theorem num_small {n:Nat} (h:n<128):num n=[n]:=by rw [num,dif_pos h]
theorem num_big {n:Nat} (h:128≤n):num n=(n % 128+128)::num (n/128):=by rw [num,dif_neg (by omega)]
theorem num_lt (n:Nat): ∀x ∈ num n,x<256:=by
 induction n using Nat.strongRecOn with
 | ind n ih=>
   by_cases h:n<128
   ·rw [num_small h];intro x hx;have:=List.mem_singleton.1 hx;omega
   ·rw [num_big (by omega)]
    intro x hx
    rcases List.mem_cons.1 hx with e | hx
    ·omega
    ·exact ih _ (by omega) x hx
theorem num_inj (a:Nat): ∀(b:Nat) (s t:List Nat),num a++s=num b++t→a=b∧s=t:=by
 induction a using Nat.strongRecOn with
 | ind a ih=>
   intro b s t h
   by_cases ha:a<128
   ·rw [num_small ha] at h
    by_cases hb:b<128
    ·rw [num_small hb] at h
     simp at h
     exact h
    ·rw [num_big (by omega)] at h
     simp at h
     omega
   ·rw [num_big (by omega)] at h
    by_cases hb:b<128
    ·rw [num_small hb] at h
     simp at h
     omega
    ·rw [num_big (by omega) (n:=b)] at h
     simp only [List.cons_append,List.cons.injEq] at h
     obtain ⟨h1,h2⟩:=h
     obtain ⟨h3,h4⟩:=ih (a/128) (by omega) _ _ _ h2
     exact ⟨by omega,h4⟩
theorem num_len {n:Nat} (h:n<16384):(num n).length≤2:=by
 by_cases h1:n<128
 ·rw [num_small h1];simp
 ·rw [num_big (by omega),num_small (by omega)];simp

def dig (B:Nat):Nat→Nat→List Nat
 | 0,_=>[]
 | c+1,s=>s/2 ^ (B*c) % 2 ^ B::dig B c s
theorem dig_length (B:Nat): ∀c s,(dig B c s).length=c
 | 0,_=>rfl
 | c+1,s=>by rw [dig,List.length_cons,dig_length B c s]
theorem dig_lt (B:Nat): ∀c s,∀x ∈ dig B c s,x<2 ^ B
 | 0,_=>by intro x hx;cases hx
 | c+1,s=>by
   intro x hx
   rw [dig] at hx
   rcases List.mem_cons.1 hx with e | hx
   ·rw [e];exact Nat.mod_lt _ (Nat.two_pow_pos B)
   ·exact dig_lt B c s x hx
def last (B:Nat):Nat:=2 ^ B - 1
def mainD (B:Nat) (ds:List Nat):List Nat:=ds.flatMap (dig B (8/B))
def csum (B:Nat) (l:List Nat):Nat:=(l.map fun d=>last B - d).sum
def cnt (B g:Nat):Nat:=g.log2/B+1
def great (B n:Nat):Nat:=8*n/B*last B
def digits (B:Nat) (ds:List Nat):List Nat:=mainD B ds++dig B (cnt B (great B ds.length)) (csum B (mainD B ds))
def count (B n:Nat):Nat:=8*n/B+cnt B (great B n)

theorem mainD_lt (B:Nat) (ds:List Nat): ∀x ∈ mainD B ds,x<2 ^ B:=by
 intro x hx
 obtain ⟨y,_,h⟩:=List.mem_flatMap.1 hx
 exact dig_lt _ _ _ x h
theorem digits_lt (B:Nat) (ds:List Nat): ∀x ∈ digits B ds,x<2 ^ B:=by
 intro x hx
 rcases List.mem_append.1 hx with h | h
 ·exact mainD_lt B ds x h
 ·exact dig_lt _ _ _ x h
theorem mainD_len (B:Nat) (ds:List Nat):(mainD B ds).length=ds.length*(8/B):=by
 induction ds with
 | nil=>simp [mainD]
 | cons d ds ih=>
   unfold mainD at ih ⊢
   rw [List.flatMap_cons,List.length_append,dig_length,ih,List.length_cons,Nat.add_mul,Nat.one_mul,Nat.add_comm]
def Bits (B:Nat):Prop:=B=1∨B=2∨B=4∨B=8
theorem mainD_length {B:Nat} (hB:Bits B) (ds:List Nat):(mainD B ds).length=8*ds.length/B:=by
 rw [mainD_len]
 rcases hB with rfl | rfl | rfl | rfl<;> omega
theorem digits_length {B:Nat} (hB:Bits B) (ds:List Nat):(digits B ds).length=count B ds.length:=by
 unfold digits count
 rw [List.length_append,mainD_length hB,dig_length]
theorem cnt_lt {B g:Nat} (hB:0<B) (hg:g≠0) (k:Nat):k<cnt B g↔2 ^ (B*k)≤g:=by
 unfold cnt
 rw [← Nat.le_log2 hg,Nat.lt_succ_iff,Nat.le_div_iff_mul_le hB,Nat.mul_comm]
theorem csum_le (B:Nat) (l:List Nat):csum B l≤l.length*last B:=by
 induction l with
 | nil=>simp [csum]
 | cons d l ih=>
   unfold csum at ih ⊢
   rw [List.map_cons,List.sum_cons,List.length_cons,Nat.add_mul,Nat.one_mul]
   omega
theorem csum_snoc (B:Nat) (l:List Nat) (d:Nat):csum B (l++[d])=csum B l+(last B - d):=by
 simp [csum]
theorem Bits.pos {B:Nat} (hB:Bits B):0<B:=by rcases hB with rfl | rfl | rfl | rfl<;> decide
theorem great_ne {B n:Nat} (hB:Bits B) (hn:0<n):great B n≠0:=by
 unfold great last
 rcases hB with rfl | rfl | rfl | rfl<;> omega
def key64 (ks:List Nat):List Nat:=ks++List.replicate (64 - ks.length) 0
theorem key64_length {ks:List Nat} (h:ks.length≤64):(key64 ks).length=64:=by
 unfold key64;rw [List.length_append,List.length_replicate];omega
theorem key64_lt {ks:List Nat} (h: ∀x ∈ ks,x<256): ∀x ∈ key64 ks,x<256:=by
 intro x hx
 rcases List.mem_append.1 hx with h1 | h1
 ·exact h x h1
 ·have:=List.eq_of_mem_replicate h1;omega
def inner (ks ds:List Nat):List Nat:=xorL (key64 ks) 54++ds
def outer (ks ds:List Nat):List Nat:=xorL (key64 ks) 92++Sha.sum (inner ks ds)
def tag (ks ds:List Nat):List Nat:=Sha.sum (outer ks ds)
def secretB:List Nat:=[115,101,99,114,101,116]
def chainB:List Nat:=[99,104,97,105,110]
def publicB:List Nat:=[112,117,98,108,105,99]
def secretIn (i:Nat):List Nat:=secretB++num i
def secret (seed:List Nat) (i:Nat):List Nat:=tag seed (secretIn i)
def input (i j:Nat) (x:List Nat):List Nat:=chainB++(num i++(num j++x))
def chain (i:Nat):Nat→Nat→List Nat→List Nat
 | _,0,x=>x
 | j,n+1,x=>chain i (j+1) n (Sha.sum (input i j x))
theorem chain_add (i:Nat): ∀a j b x,chain i j (a+b) x=chain i (j+a) b (chain i j a x)
 | 0,j,b,x=>by rw [Nat.zero_add];rfl
 | a+1,j,b,x=>by
   rw [show a+1+b=(a+b)+1 by omega,chain,chain_add i a (j+1) b,chain,show j+1+a=j+(a+1) by omega]
theorem chain_succ (i j n:Nat) (x:List Nat):chain i j (n+1) x=Sha.sum (input i (j+n) (chain i j n x)):=by
 rw [chain_add i n j 1 x];rfl
theorem chain_length (i:Nat): ∀n j x,x.length=32→(chain i j n x).length=32
 | 0,_,_,h=>h
 | n+1,j,x,_=>chain_length i n (j+1) _ (Sha.sum_length _)
theorem chain_lt (i:Nat): ∀n j x,(∀y ∈ x,y<256)→ ∀y ∈ chain i j n x,y<256
 | 0,_,_,h=>h
 | n+1,j,x,_=>chain_lt i n (j+1) _ (Sha.sum_lt _)
theorem secret_length (seed:List Nat) (i:Nat):(secret seed i).length=32:=Sha.sum_length _
theorem secret_lt (seed:List Nat) (i:Nat): ∀y ∈ secret seed i,y<256:=Sha.sum_lt _
theorem merge (i j:Nat) (x y:List Nat): ∀n,chain i j n x=chain i j n y→x≠y→ ∃k,k<n∧chain i j k x≠chain i j k y∧Sha.sum (input i (j+k) (chain i j k x))=Sha.sum (input i (j+k) (chain i j k y))
 | 0,h,hn=>absurd h hn
 | n+1,h,hn=>by
   rw [chain_succ,chain_succ] at h
   by_cases e:chain i j n x=chain i j n y
   ·obtain ⟨k,hk,r⟩:=merge i j x y n e hn
    exact ⟨k,by omega,r⟩
   ·exact ⟨n,by omega,e,h⟩
theorem input_inj {i j k:Nat} {x y:List Nat} (h:input i j x=input i k y):j=k∧x=y:=by
 unfold input at h
 have h1:=List.append_cancel_left (List.append_cancel_left h)
 exact num_inj _ _ _ _ h1
def links (i:Nat):Nat→Nat→List Nat→List (List Nat)
 | _,0,_=>[]
 | j,n+1,x=>input i j x::links i (j+1) n (Sha.sum (input i j x))
theorem mem_links (i:Nat): ∀n j x k,k<n→input i (j+k) (chain i j k x) ∈ links i j n x
 | 0,_,_,_,h=>by omega
 | n+1,j,x,0,_=>List.mem_cons_self ..
 | n+1,j,x,k+1,h=>by
   refine List.mem_cons_of_mem _ ?_
   have:=mem_links i n (j+1) (Sha.sum (input i j x)) k (by omega)
   rwa [show j+1+k=j+(k+1) by omega] at this
def ends (B:Nat) (steps:List Nat) (parts:List (List Nat)) (n:Nat):List (List Nat):=(List.range n).map fun i=>chain i (steps.getD i 0) (last B - steps.getD i 0) (parts.getD i [])
def endsS (B:Nat) (steps:List Nat) (parts:List (List Nat)) (n:Nat):List Nat:=publicB++(ends B steps parts n).flatten
def starts (seed:List Nat) (n:Nat):List (List Nat):=(List.range n).map (secret seed)
def pubOf (vs:List (List Nat)):List Nat:=Sha.sum (publicB++vs.flatten)
def pub (B:Nat) (seed:List Nat) (n:Nat):List Nat:=pubOf ((List.range n).map fun i=>chain i 0 (last B) (secret seed i))
def sign (seed:List Nat) (ds:List Nat):List (List Nat):=(List.range ds.length).map fun i=>chain i 0 (ds.getD i 0) (secret seed i)
def recover (B:Nat) (ds:List Nat) (parts:List (List Nat)):List Nat:=pubOf (ends B ds parts ds.length)
theorem starts_getD (seed:List Nat) (n i:Nat) (h:i<n):(starts seed n).getD i []=secret seed i:=by
 simp [starts,lD,h]
theorem sign_getD (seed ds:List Nat) (i:Nat) (h:i<ds.length):(sign seed ds).getD i []=chain i 0 (ds.getD i 0) (secret seed i):=by
 simp [sign,lD,h]
theorem sign_length (seed ds:List Nat):(sign seed ds).length=ds.length:=by simp [sign]
theorem ends_length (B:Nat) (steps:List Nat) (parts:List (List Nat)) (n:Nat):(ends B steps parts n).length=n:=by simp [ends]
theorem ends_get (B:Nat) (steps:List Nat) (parts:List (List Nat)) (n i:Nat) (h:i<n):(ends B steps parts n).getD i []=chain i (steps.getD i 0) (last B - steps.getD i 0) (parts.getD i []):=by
 simp [ends,lD,h]
theorem flat_inj: ∀(a b:List (List Nat)),a.length=b.length→(∀x ∈ a,x.length=32)→(∀x ∈ b,x.length=32)→a.flatten=b.flatten→a=b
 | [],[],_,_,_,_=>rfl
 | [],_::_,h,_,_,_=>by simp at h
 | _::_,[],h,_,_,_=>by simp at h
 | x::a,y::b,h,ha,hb,e=>by
   rw [List.flatten_cons,List.flatten_cons] at e
   obtain ⟨e1,e2⟩:=List.append_inj e (by rw [ha x (List.mem_cons_self ..),hb y (List.mem_cons_self ..)])
   rw [e1,flat_inj a b (by simpa using h) (fun z hz=>ha z (List.mem_cons_of_mem _ hz)) (fun z hz=>hb z (List.mem_cons_of_mem _ hz)) e2]
theorem ends_len32 (B:Nat) (steps:List Nat) (parts:List (List Nat)) (n:Nat) (h: ∀i,i<n→(parts.getD i []).length=32): ∀x ∈ ends B steps parts n,x.length=32:=by
 intro x hx
 obtain ⟨i,hi,rfl⟩:=List.mem_map.1 hx
 exact chain_length _ _ _ _ (h i (List.mem_range.1 hi))
theorem verifies (B:Nat) (seed ds:List Nat) (hd: ∀x ∈ ds,x≤last B):recover B ds (sign seed ds)=pub B seed ds.length:=by
 unfold recover pub ends
 congr 1
 refine List.map_congr_left fun i hi=> ?_
 have hi2:=List.mem_range.1 hi
 rw [sign_getD _ _ _ hi2]
 have hle:ds.getD i 0≤last B:=by
  rw [lD,lE hi2];exact hd _ (List.getElem_mem _)
 have:=chain_add i (ds.getD i 0) 0 (last B - ds.getD i 0) (secret seed i)
 rw [Nat.zero_add,show ds.getD i 0+(last B - ds.getD i 0)=last B by omega] at this
 exact this.symm
def Coll (L:List (List Nat)):Prop:= ∃s ∈ L,∃t ∈ L,s≠t∧Sha.sum s=Sha.sum t
def summed (B:Nat) (seed ds:List Nat) (parts:List (List Nat)):List (List Nat):=
 (List.range ds.length).flatMap (fun i=>inner seed (secretIn i)::outer seed (secretIn i)::links i 0 (last B) (secret seed i))++
 ((List.range parts.length).flatMap (fun i=>links i (ds.getD i 0) (last B - ds.getD i 0) (parts.getD i []))++
 [endsS B [] (starts seed ds.length) ds.length,endsS B ds parts parts.length])
theorem mem_chain {B:Nat} {seed ds:List Nat} {parts:List (List Nat)} {i k:Nat} (hi:i<ds.length) (hk:k<last B):input i k (chain i 0 k (secret seed i)) ∈ summed B seed ds parts:=by
 refine List.mem_append_left _ (List.mem_flatMap.2 ⟨i,List.mem_range.2 hi,List.mem_cons_of_mem _ (List.mem_cons_of_mem _ ?_)⟩)
 have:=mem_links i (last B) 0 (secret seed i) k hk
 rwa [Nat.zero_add] at this
theorem mem_part {B:Nat} {seed ds:List Nat} {parts:List (List Nat)} {i k:Nat} (hi:i<parts.length) (hk:k<last B - ds.getD i 0):input i (ds.getD i 0+k) (chain i (ds.getD i 0) k (parts.getD i [])) ∈ summed B seed ds parts:=
 List.mem_append_right _ (List.mem_append_left _ (List.mem_flatMap.2 ⟨i,List.mem_range.2 hi,mem_links _ _ _ _ _ hk⟩))
theorem mem_ends0 {B:Nat} {seed ds:List Nat} {parts:List (List Nat)}:endsS B [] (starts seed ds.length) ds.length ∈ summed B seed ds parts:=
 List.mem_append_right _ (List.mem_append_right _ (List.mem_cons_self ..))
theorem mem_ends1 {B:Nat} {seed ds:List Nat} {parts:List (List Nat)}:endsS B ds parts parts.length ∈ summed B seed ds parts:=
 List.mem_append_right _ (List.mem_append_right _ (List.mem_cons_of_mem _ (List.mem_cons_self ..)))
theorem endsS_start (B:Nat) (seed:List Nat) (n:Nat):Sha.sum (endsS B [] (starts seed n) n)=pub B seed n:=by
 unfold endsS pub pubOf ends
 congr 3
 refine List.map_congr_left fun i hi=> ?_
 rw [starts_getD _ _ _ (List.mem_range.1 hi)]
 rfl
theorem goes_on {B:Nat} {seed ds:List Nat} {parts:List (List Nat)} (hp:parts.length=ds.length) (h32: ∀x ∈ parts,x.length=32) (hd: ∀x ∈ ds,x≤last B)
    (h:recover B ds parts=pub B seed ds.length) (hc: ¬Coll (summed B seed ds parts)): ∀i,i<ds.length→parts.getD i []=chain i 0 (ds.getD i 0) (secret seed i):=by
 intro i hi
 have hge: ∀i,i<ds.length→(parts.getD i []).length=32:=fun i hi=>by
  rw [lD,lE (by omega)];exact h32 _ (List.getElem_mem _)
 have hle:ds.getD i 0≤last B:=by
  rw [lD,lE hi];exact hd _ (List.getElem_mem _)
 have e1:endsS B [] (starts seed ds.length) ds.length=endsS B ds parts parts.length:=by
  refine Classical.byContradiction fun hne=>hc ⟨_,mem_ends0,_,mem_ends1,hne,?_⟩
  rw [endsS_start,hp]
  exact h.symm
 unfold endsS at e1
 rw [hp] at e1
 have e2:=flat_inj _ _ (by rw [ends_length,ends_length]) (ends_len32 _ _ _ _ (fun i hi=>by rw [starts_getD _ _ _ hi];exact secret_length _ _)) (ends_len32 _ _ _ _ hge) (List.append_cancel_left e1)
 have e3:=congrArg (fun l=>l.getD i []) e2
 simp only [ends_get _ _ _ _ _ hi,starts_getD _ _ _ hi] at e3
 have e4:chain i 0 (last B) (secret seed i)=chain i (ds.getD i 0) (last B - ds.getD i 0) (parts.getD i []):=e3
 rw [show last B=ds.getD i 0+(last B - ds.getD i 0) by omega,chain_add,Nat.zero_add,show ds.getD i 0+(last B - ds.getD i 0) - ds.getD i 0=last B - ds.getD i 0 by omega] at e4
 refine Classical.byContradiction fun hne=> ?_
 obtain ⟨k,hk,h1,h2⟩:=merge i (ds.getD i 0) _ _ _ e4 (fun e=>hne e.symm)
 have e5:chain i (ds.getD i 0) k (chain i 0 (ds.getD i 0) (secret seed i))=chain i 0 (ds.getD i 0+k) (secret seed i):=by
  have:=chain_add i (ds.getD i 0) 0 k (secret seed i)
  rw [Nat.zero_add] at this
  exact this.symm
 rw [e5] at h1 h2
 exact hc ⟨_,mem_chain hi (by omega),_,mem_part (by omega) hk,fun e=>h1 (input_inj e).2,h2⟩
theorem only {B:Nat} {seed ds:List Nat} {parts:List (List Nat)} (hp:parts.length=ds.length) (h32: ∀x ∈ parts,x.length=32) (hd: ∀x ∈ ds,x≤last B)
    (h:recover B ds parts=pub B seed ds.length) (hne:parts≠sign seed ds):Coll (summed B seed ds parts):=by
 refine Classical.byContradiction fun hc=>hne ?_
 have hg:=goes_on hp h32 hd h hc
 refine List.ext_getElem (by rw [sign_length,hp]) fun i h1 h2=> ?_
 have h3:=hg i (by omega)
 rw [← sign_getD seed ds i (by omega),lD,lE h1,lD,lE h2] at h3
 exact h3
end One
end Go.Proofs.YtndlihclgdkpaaaGreatDoor
namespace Go.Proofs.YtndlihclgdkpaaaGreatDoor
open Go.RowKit
open Kit (Chg)

theorem nb_strB {bs:List Nat} (h: ∀x ∈ bs,x<256):nb (strB bs)=bs:=by
 unfold nb strB
 rw [strOfNums_data,List.map_map,List.map_map]
 have e: ∀x ∈ bs,(UInt8.toNat ∘ ((fun (n:Int)=>UInt8.ofNat n.toNat) ∘ fun (x:Nat)=>(x:Int))) x=x:=fun x hx=>by
  have:=h x hx
  simp
  omega
 calc _=bs.map id:=List.map_congr_left e
  _=bs:=List.map_id _
theorem map_inj: ∀l m:List UInt8,l.map UInt8.toNat=m.map UInt8.toNat→l=m
 | [],[],_=>rfl
 | [],_::_,h=>by simp at h
 | _::_,[],h=>by simp at h
 | a::l,b::m,h=>by
   simp only [List.map_cons,List.cons.injEq] at h
   rw [UInt8.toNat_inj.1 h.1,map_inj l m h.2]
theorem nb_inj {s t:ByteArray} (h:nb s=nb t):s=t:=by
 refine ByteArray.ext (Array.toList_inj.1 ?_)
 unfold nb at h
 exact map_inj _ _ h
theorem strB_nb (s:ByteArray):strB (nb s)=s:=nb_inj (nb_strB (nb_lt s))
theorem strB_size (bs:List Nat) (h: ∀x ∈ bs,x<256):(strB bs).size=bs.length:=by
 rw [← nb_length,nb_strB h]
theorem nb_app (s t:ByteArray):nb (s++t)=nb s++nb t:=by
 unfold nb
 rw [← List.map_append]
 congr 1
theorem eq_str (s t:ByteArray):(s.toList==t.toList)=decide (nb s=nb t):=by
 rw [Bool.eq_iff_iff,beq_iff_eq,decide_eq_true_eq]
 refine ⟨fun h=> ?_,fun h=>by rw [nb_inj h]⟩
 rw [Lib.toList_data,Lib.toList_data] at h
 unfold nb
 rw [h]
theorem catB_strs (ss:List (List Nat)) (h: ∀s ∈ ss,∀x ∈ s,x<256):catB (ss.map strB)=ss.flatten:=by
 induction ss with
 | nil=>rfl
 | cons s ss ih=>
   unfold catB at ih ⊢
   rw [List.map_cons,List.flatMap_cons,ih (fun t ht=>h t (List.mem_cons_of_mem _ ht)),nb_strB (h s (List.mem_cons_self ..)),List.flatten_cons]
end Go.Proofs.YtndlihclgdkpaaaGreatDoor
namespace Go.Proofs.YtndlihclgdkpaaaGreatDoor
namespace Kit
variable {P:Program}

theorem foldl_splice (off:Nat) (vs:List Value) (cells:Array Value) (h:off+vs.length≤cells.size):
    (vs.zipIdx 0).foldl (fun cs (x:Value × Nat)=>cs.setIfInBounds (off+x.2) x.1) cells=(splice cells.toList off vs).toArray:=by
 obtain ⟨h1,h2⟩:=Great.foldl_set off vs 0 cells
 apply Array.ext_getElem?
 intro k
 rw [h2 k]
 simp only [splice,List.getElem?_toArray,Nat.add_zero]
 have hl:(cells.toList.take off).length=off:=by rw [List.length_take,Array.length_toList];omega
 by_cases hk:k<off
 ·rw [if_neg (by omega),List.getElem?_append_left (by rw [hl];exact hk),List.getElem?_take_of_lt hk]
  simp
 ·by_cases hk2:k<off+vs.length
  ·rw [if_pos ⟨by omega,hk2,by omega⟩,List.getElem?_append_right (by rw [hl];omega),hl,List.getElem?_append_left (by omega)]
  ·rw [if_neg (by omega),List.getElem?_append_right (by rw [hl];omega),hl,List.getElem?_append_right (by omega),List.getElem?_drop]
   rw [show off+vs.length+(k - off - vs.length)=k by omega]
   simp

theorem splice_at {α:Type} (A Z C:List α) (off:Nat) (h:A.length=off):splice (A++Z) off C=A++(C++Z.drop C.length):=by
 unfold splice
 subst h
 rw [List.take_left,← List.drop_drop,List.drop_left]
theorem splice_length {α:Type} (L C:List α) (off:Nat) (h:off+C.length≤L.length):(splice L off C).length=L.length:=by
 unfold splice
 simp only [List.length_append,List.length_take,List.length_drop]
 omega
theorem fill_put {place:Nat→Option (Nat × Nat)} {cells:Array Value} {i off size:Nat} {v:Value} {rest:List (Nat × Value)} (hp:place i=some (off,size)) (hs:v.cells.size=size) (hle:off+size≤cells.size):
    Instr.fill place cells ((i,v)::rest)=Instr.fill place (splice cells.toList off v.cells.toList).toArray rest:=by
 conv=>lhs;unfold Instr.fill
 simp only [hp]
 rw [if_neg (by simp;omega)]
 congr 1
 have:=foldl_splice off v.cells.toList cells (by simp;omega)
 rw [← this,← Array.foldl_toList]
 simp

theorem fill_nil {place:Nat→Option (Nat × Nat)} {cells:Array Value}:Instr.fill place cells []=some cells:=rfl
theorem wp_build_to {o:Oper} {a:Act} {w:World} {K:Act→World→Prop} {Q:Exit→Act→World→Prop} (t:TypeId) (parts:Array (Nat × Operand)) (ho:o.op= .build t parts) (cells:Array Value)
    (hf:P.built t (parts.map fun (i,x)=>(i,a.eval x)).toList=some cells) (h:K (a.put o.dst (.agg cells)) w):o.wp P a w K Q:=by
 refine wp_build t parts ho (by rw [hf];rfl) ?_
 rw [hf]
 exact h
theorem wp_build_list {o:Oper} {a:Act} {w:World} {K:Act→World→Prop} {Q:Exit→Act→World→Prop} (t:TypeId) (parts:List (Nat × Operand)) (ho:o.op= .build t parts.toArray) (cells:Array Value)
    (hf:P.built t (parts.map fun x=>(x.1,a.eval x.2))=some cells) (h:K (a.put o.dst (.agg cells)) w):o.wp P a w K Q:=
 wp_build_to t parts.toArray ho cells (by rw [List.map_toArray];exact hf) h
theorem built_struct {t:TypeId} {it:TypeInfo} {z:Value} {fields:Array Field} {places:List (Nat × Nat)} {parts:List (Nat × Value)} {R:Array Value} (hi:P.info? t=some it) (hu:P.underlying t=some (.struct fields)) (hz:it.zero=some z)
    (hp:fields.toList.mapM (fun f=>(P.info? f.type).map fun i=>(f.offset,i.size))=some places) (hf:Instr.fill (places.toArray[·]?) z.cells parts=some R):P.built t parts=some R:=by
 unfold Program.built
 simp only [hi,hu,hz,hp]
 exact hf
theorem built_two {t:TypeId} {n1 n2:Nat} (hz:(P.info? t).map (fun i=>i.zero.map (fun z=>z.cells.size))=some (some (n1+n2)))
    (hf:(match P.underlying t with | some (.struct fields)=>fields.toList.mapM (fun f=>(P.info? f.type).map fun i=>(f.offset,i.size)) | _=>none)=some [(0,n1),(n1,n2)])
    (A B:Array Value) (hA:A.size=n1) (hB:B.size=n2):P.built t [(0,.agg A),(1,.agg B)]=some (A++B):=by
 cases hi:P.info? t with
 | none=>rw [hi] at hz;cases hz
 | some it=>
   rw [hi] at hz
   cases hzz:it.zero with
   | none=>rw [Option.map_some,hzz] at hz;cases hz
   | some z=>
     rw [Option.map_some,hzz,Option.map_some,Option.some.injEq,Option.some.injEq] at hz
     cases hu:P.underlying t with
     | none=>rw [hu] at hf;cases hf
     | some d=>
       rw [hu] at hf
       cases d with
       | struct fields=>
         refine built_struct hi hu hzz hf ?_
         have hA0:(Value.agg A).cells.toList.length=n1:=by rw [Array.length_toList];exact hA
         have hB0:(Value.agg B).cells.toList.length=n2:=by rw [Array.length_toList];exact hB
         have hzl:z.cells.toList.length=n1+n2:=by rw [Array.length_toList];exact hz
         rw [fill_put (v:= .agg A) (off:=0) (size:=n1) rfl hA (by omega),
          fill_put (v:= .agg B) (off:=n1) (size:=n2) rfl hB (by rw [List.size_toArray,splice_length _ _ _ (by omega),hzl];omega)]
         rw [fill_nil]
         refine congrArg some ?_
         have e0:=splice_at [] z.cells.toList A.toList 0 rfl
         rw [List.nil_append,List.nil_append,show A.toList.length=n1 by rw [Array.length_toList];exact hA] at e0
         show (splice (splice z.cells.toList 0 A.toList) n1 B.toList).toArray=A++B
         rw [e0,splice_at A.toList _ B.toList n1 (by rw [Array.length_toList];exact hA),List.drop_drop,List.drop_of_length_le (by rw [hzl,Array.length_toList];omega),List.append_nil]
         rw [← Array.toList_inj]
         simp
       | _=>cases hf
theorem built_one {t:TypeId} {n:Nat} (hz:(P.info? t).map (fun i=>i.zero.map (fun z=>z.cells.size))=some (some n))
    (hf:(match P.underlying t with | some (.struct fields)=>fields.toList.mapM (fun f=>(P.info? f.type).map fun i=>(f.offset,i.size)) | _=>none)=some [(0,n)])
    (A:Array Value) (hA:A.size=n):P.built t [(0,.agg A)]=some A:=by
 cases hi:P.info? t with
 | none=>rw [hi] at hz;cases hz
 | some it=>
   rw [hi] at hz
   cases hzz:it.zero with
   | none=>rw [Option.map_some,hzz] at hz;cases hz
   | some z=>
     rw [Option.map_some,hzz,Option.map_some,Option.some.injEq,Option.some.injEq] at hz
     cases hu:P.underlying t with
     | none=>rw [hu] at hf;cases hf
     | some d=>
       rw [hu] at hf
       cases d with
       | struct fields=>
         refine built_struct hi hu hzz hf ?_
         have hzl:z.cells.toList.length=n:=by rw [Array.length_toList];exact hz
         rw [fill_put (v:= .agg A) (off:=0) (size:=n) rfl hA (by omega)]
         rw [fill_nil]
         refine congrArg some ?_
         have e0:=splice_at [] z.cells.toList A.toList 0 rfl
         rw [List.nil_append,List.nil_append] at e0
         show (splice z.cells.toList 0 A.toList).toArray=A
         rw [e0,List.drop_of_length_le (by rw [hzl,Array.length_toList];omega),List.append_nil]
       | _=>cases hf
section
variable {md:Region.Mode} {Q:Exit→Act→World→Prop} {S:World→Prop}
theorem wpAnyH_mono {ops:Array Oper} {S S':World→Prop} (h: ∀w,S' w→S w): ∀(fuel:Nat) (listed:Array Bool) (a:Act) (w:World),wpAnyH P md ops Q S' fuel listed a w→wpAnyH P md ops Q S fuel listed a w
 | 0,_,_,_,H=>H
 | fuel+1,_,_,_,H=>⟨H.1,fun i hi=>wpOp_mono (fun a' w' h'=>⟨h _ h'.1,wpAnyH_mono h fuel _ a' w' h'.2⟩) (H.2 i hi)⟩
def mid2Ok (md:Region.Mode) (ops:Array Oper) (m:Nat) (idx2 tail:List Nat):List Nat→Array Bool→Bool
 | [],listed=>decide (Region.ready md ops listed=[m]) && headsOk md ops tail idx2 (listed.setIfInBounds m true)
 | i::rest,listed=>Region.free md ops listed i && (Region.ready md ops listed).contains i && mid2Ok md ops m idx2 tail rest (listed.setIfInBounds i true)
def midNext (P:Program) (Q:Exit→Act→World→Prop) (l:List Oper) (m:Nat) (R:Act→World→Prop) (a:Act) (w:World):Prop:=
 ∃o,l[m]? =some o∧o.guard=none∧ ∀K:Act→World→Prop,(∀a w',R a w'→K a w')→o.wp P a w K Q
theorem any_of_mid2 {l:List Oper} {m:Nat} {idx2 tail:List Nat} {w:World} {S2:World→Prop} (hmono: ∀w,S2 w→S w) (hsel:Region.noSelect l.toArray=true) (hQ: ∀c a d v w,Q (.panic c) (a.put d v) w→Q (.panic c) a w) (hS:S w):
    ∀(idx:List Nat) (listed:Array Bool) (a:Act),mid2Ok md l.toArray m idx2 tail idx listed=true→
     heads P S (fun a=>midNext P Q l m (fun a w'=>S2 w'∧heads P S2 (fun a=>chain P Q S2 l tail a w') l idx2 a) a w) l idx a→wpAnyH P md l.toArray Q S (idx.length+(1+(idx2.length+tail.length))) listed a w
 | [],listed,a,hB,h=>by
   simp only [mid2Ok,Bool.and_eq_true,decide_eq_true_eq] at hB
   obtain ⟨o,ho,hg,hw⟩:=h
   rw [List.length_nil,Nat.zero_add,Nat.add_comm]
   refine wpAnyH_all hB.1 (by simp) ?_
   intro j hj
   have hji:j=m:=by simpa using hj
   subst hji
   have ho':l.toArray[j]? =some o:=by simpa using ho
   unfold wpOp
   rw [ho']
   show if Region.wanted o (yielded l.toArray a.tmps)=true then _ else _
   rw [if_pos (by simp [Region.wanted,hg])]
   refine .inl (hw _ fun a w' hc=>⟨hmono _ hc.1,?_⟩)
   exact wpAnyH_mono hmono _ _ _ _ (any_of_heads hsel hQ hc.1 idx2 _ a hB.2 hc.2)
 | i::rest,listed,a,hB,h=>by
   simp only [mid2Ok,Bool.and_eq_true] at hB
   obtain ⟨o,ho,v,hy,hr⟩:=h
   rw [List.length_cons,show rest.length+1+(1+(idx2.length+tail.length))=rest.length+(1+(idx2.length+tail.length))+1 by omega]
   exact wpAnyH_take (by simpa using ho) hsel hB.1.1 hB.1.2 (fun c a w=>hQ c a _ v w) hy hS (any_of_mid2 hmono hsel hQ hS rest _ _ hB.2 hr)
theorem wp_region_mid2 {id:Nat} {a:Act} {w:World} {l:List Oper} (S S2:World→Prop) (idx:List Nat) (m:Nat) (idx2 tail:List Nat) (hm:P.follows .mixedOrders=true) (hsel:Region.noSelect l.toArray=true) (hn:l.length=idx.length+(1+(idx2.length+tail.length)))
    (hB:mid2Ok .any l.toArray m idx2 tail idx (Array.replicate l.length false)=true) (hmono: ∀w,S2 w→S w) (hS:S w.drew)
    (h:heads P S (fun a=>midNext P (NoPanic Q) l m (fun a w'=>S2 w'∧heads P S2 (fun a=>chain P (NoPanic Q) S2 l tail a w') l idx2 a) a w.drew) l idx a):(Code.region id l.toArray true).wp P Q a w:=by
 refine wp_region_noPanic (wp_region_held (S:=S) hm ?_)
 have H:=any_of_mid2 (Q:=NoPanic Q) hmono hsel (fun _ _ _ _ _ h=>h) hS idx _ _ hB h
 rw [← hn] at H
 have e:l.toArray.size=l.length:=List.size_toArray
 rw [e]
 exact H
theorem midNext_of {l:List Oper} {m:Nat} {R:Act→World→Prop} {a:Act} {w:World} {o:Oper} (ho:l[m]? =some o) (hg:o.guard=none) (h: ∀K:Act→World→Prop,(∀a w',R a w'→K a w')→o.wp P a w K Q):midNext P Q l m R a w:=⟨o,ho,hg,h⟩
end
end Kit
end Go.Proofs.YtndlihclgdkpaaaGreatDoor
namespace Go.Proofs.YtndlihclgdkpaaaGreatDoor
open Go.RowKit
open Kit (Chg)
open Sha (v)
open Go.Proofs.YtndlihclgdkpaaaGreatDoor.One

structure Laid (w:World):Prop where
 kon:KonAt w
 init:InitAt w
 pad0:w.cell? ⟨1,0,none⟩=some (.int .u8 54)
 pad1:w.cell? ⟨1,1,none⟩=some (.int .u8 92)
theorem Laid.later {w w':World} {B:Nat} (h:Laid w) (hb:Below B w w') (hB:w.heap.size≤B):Laid w':=
 have hb2:=hb.mono hB
 ⟨h.kon.later hb2,h.init.later hb2,(hb2.cell (World.block_lt_of_cell? w _ h.pad0)).trans h.pad0,(hb2.cell (World.block_lt_of_cell? w _ h.pad1)).trans h.pad1⟩
theorem Laid.drew {w:World} (h:Laid w):Laid w.drew:=⟨h.kon,h.init,h.pad0,h.pad1⟩

theorem wpList_copy_string {P:Program} {w:World} {ops:Array Oper} {rest:List Oper} {o:Oper} {a:Act} {Q:Exit→Act→World→Prop} (hgd:o.guard=none) (d s:Operand) (dT sT:TypeId)
    (ho:o.op= .call { callee:= .builtin .copy,args:= #[d,s],argTypes:= #[dT,sT] }) (elem:TypeId) (hu:P.underlying dT=some (.slice elem)) (hsz:(P.info? elem).map (·.size)=some 1)
    (g off dLen dCap:Nat) (str:ByteArray) (hd:a.eval d= .slice (some ⟨g,off,none⟩) dLen dCap) (hs:a.eval s= .string str)
    (cur:Array Value) (t:TypeId) (hg:w.heap[g]? =some (.cells cur t (0,0))) (hle:str.size≤dLen) (hfit:off+str.size≤cur.size) (new:Array Value)
    (hnew:(cur.toList.take off++Go.Lib.byteCells str.data.toList++cur.toList.drop (off+str.size)).toArray=new)
    (h:wpList P ops Q rest (a.put o.dst (goInt str.size)) (w.setRow g new)):wpList P ops Q (o::rest) a w:=by
 refine wpList_plain hgd fun K hK=> ?_
 have hrun:=Go.Lib.run_copy_row_string (P:=P) w dT sT o.type elem g off dLen dCap str cur t hu hsz hg hle hfit
 rw [hnew] at hrun
 unfold Oper.wp
 simp [execOp,ho,resolve,invoke,builtin,hd,hs,hrun,Result.andThen]
 exact hK _ _ h
theorem byteCells_bvals (s:ByteArray):Go.Lib.byteCells s.data.toList=bvals (nb s):=by
 unfold Go.Lib.byteCells bvals nb
 rw [List.map_map]
 rfl
def zero64:Array Value:=(bvals (List.replicate 64 0)).toArray
theorem zero64_new (w:World):(w.alloc (.cells zero64 306)).heap[w.heap.size]? =some (.cells zero64 306 (0,0)):=heap_alloc_new _ _
theorem key64_row (key:ByteArray) (h:key.size≤64):(zero64.toList.take 0++Go.Lib.byteCells key.data.toList++zero64.toList.drop (0+key.size)).toArray=(bvals (key64 (nb key))).toArray:=by
 have hz:zero64.toList=List.replicate 64 (Value.int .u8 0):=by simp [zero64,bvals]
 rw [hz,byteCells_bvals,List.take_zero,List.nil_append,Nat.zero_add,List.drop_replicate]
 unfold key64
 rw [bvals_append,nb_length]
 congr 2
 simp [bvals]
theorem load_cells_yield {P:Program} {o:Oper} {a:Act} {w:World} (ty:TypeId) (x:Operand) (ho:o.op= .load ty x)
    (g off:Nat) (hx:a.eval x= .pointer (some ⟨g,off,none⟩)) (cs:List Value) (hc: ∀j u,cs[j]? =some u→w.cell? ⟨g,off+j,none⟩=some u) (d:TypeDesc)
    (hu:P.underlying ty=some d) (hd:(match d with | .struct _ | .array _ _=>true | _=>false)=true) (hi:(P.info? ty).map (·.size)=some cs.length) (R:Array Value) (hR:cs.toArray=R):
    (execOp a.eval o).run P w= .ok (.value (.agg R)) w:=by
 subst hR
 have hl:(loadCells ⟨g,off,none⟩ cs.length).run P w= .ok cs.toArray w:=
  run_loadCells_list (P:=P) w ⟨g,off,none⟩ cs (fun j v hv=>by rw [add_none];exact hc j v hv)
 have hrun:(loadVar ty ⟨g,off,none⟩).run P w= .ok (.agg cs.toArray) w:=by
  cases hq:P.info? ty with
  | none=>simp [hq] at hi
  | some i=>
    have hs:i.size=cs.length:=by simpa [hq] using hi
    have hagg:(isAgg ty).run P w= .ok true w:=by
     unfold isAgg
     rw [Sem.run_bind,run_underlying hu w]
     cases d<;> simp_all
    simp [loadVar,Sem.run_bind,hagg,sizeOf,typeInfo,hq,hs,hl]
 unfold execOp
 simp only [ho,hx,Instr.loadAt,Instr.sureAddr,Sem.run_bind,Sem.run_pure,Result.andThen_ok,hrun]

structure MacAt (w:World) (g:Nat) (K ps:List Nat):Prop where
 state:StateAt w g 0 (xorL K 54++ps)
 outer:BytesAt w (some ⟨g,73,none⟩) (xorL K 92)
theorem state_pre {w:World} {N:Nat} {t:TypeId} {RO:Array Value} (hg:w.heap[N]? =some (.cells (stateRow++RO) t (0,0))):StateAt w N 0 []:=by
 have hc: ∀i u,stateRow[i]? =some u→w.cell? ⟨N,i,none⟩=some u:=fun i u h=>by
  rw [cell_of_row _ _ _ _ _ _ hg,Array.getElem?_append_left (gS h).1];exact h
 refine ⟨⟨_,t,hg,by rw [Array.size_append,stateRow_size];omega⟩,fun i hi=>by rw [Nat.zero_add];exact hc i _ (init_cells i hi),fun i hi=>⟨0,by omega,by rw [Nat.zero_add];exact hc _ _ (stateRow_at i hi)⟩,fun i hi=>by simp at hi,by rw [Nat.zero_add];exact hc 72 _ rfl,by simp⟩
theorem row_bytes {w:World} {N o:Nat} {t:TypeId} {A RO:Array Value} {bs:List Nat} (hg:w.heap[N]? =some (.cells (A++RO) t (0,0))) (hA:A.size=o) (hR:(bvals bs).toArray=RO) (hb: ∀x ∈ bs,x<256) (hl:bs.length≤maxLen):BytesAt w (some ⟨N,o,none⟩) bs:=by
 subst hR
 refine ⟨.inr ⟨N,o,rfl,fun i hi=> ?_⟩,hb,hl⟩
 rw [cell_of_row _ _ _ _ _ _ hg,Array.getElem?_append_right (by omega),hA,Nat.add_sub_cancel_left,List.getElem?_toArray]
 simp [bvals,hi]
theorem row_bytes0 {w:World} {N:Nat} {t:TypeId} {RO:Array Value} {bs:List Nat} (hg:w.heap[N]? =some (.cells RO t (0,0))) (hR:(bvals bs).toArray=RO) (hb: ∀x ∈ bs,x<256) (hl:bs.length≤maxLen):BytesAt w (some ⟨N,0,none⟩) bs:=
 row_bytes (A:= #[]) (by rw [Array.empty_append];exact hg) rfl hR hb hl
theorem bytesAt_keep {w w':World} {b o:Nat} {bs:List Nat} {M:Nat→Nat→Prop} (h:BytesAt w (some ⟨b,o,none⟩) bs) (hc:Chg M w w') (hM: ∀i,o≤i→ ¬M b i):BytesAt w' (some ⟨b,o,none⟩) bs:=by
 refine ⟨?_,h.2⟩
 rcases h.1 with e | ⟨b',o',e,hcell⟩
 ·exact .inl e
 ·cases e
  exact .inr ⟨_,_,rfl,fun i hi=>hc.cell (hcell i hi) (hM _ (by omega))⟩
theorem Tryz.b146z:(Tryz.prog.info? 346).map (fun i=>i.zero.map (fun z=>z.cells.size))=some (some (73+64)):=by kernel_rfl
theorem Tryz.b146f:(match Tryz.prog.underlying 346 with | some (.struct fields)=>fields.toList.mapM (fun f=>(Tryz.prog.info? f.type).map fun i=>(f.offset,i.size)) | _=>none)=some [(0,73),(73,64)]:=by kernel_rfl
theorem Tryz.b148z:(Tryz.prog.info? 348).map (fun i=>i.zero.map (fun z=>z.cells.size))=some (some 137):=by kernel_rfl
theorem Tryz.b148f:(match Tryz.prog.underlying 348 with | some (.struct fields)=>fields.toList.mapM (fun f=>(Tryz.prog.info? f.type).map fun i=>(f.offset,i.size)) | _=>none)=some [(0,137)]:=by kernel_rfl

theorem padc_54 (kb:Nat) (ks:List Nat) (hk:ks.length=64) (hb: ∀x ∈ ks,x<256) (w:World) (hK:w.heap[kb]? =some (.cells (bvals ks).toArray 306 (0,0))):
    Calls Tryz.prog 285 #[.int .u8 54,.pointer (some ⟨kb,0,none⟩)] w fun e w'=>e= .returned (.agg (bvals (xorL ks 54)).toArray)∧Below w.heap.size w w':=padc_any kb ks 54 hk hb (by decide) w hK
theorem macNew_any (key:ByteArray) (hk:key.size≤64) (w:World) (hL:Laid w):
    Calls Tryz.prog 237 #[.string key] w fun e w'=> ∃g,e= .returned (.pointer (some ⟨g,0,none⟩))∧w.heap.size≤g∧MacAt w' g (key64 (nb key)) []∧Below w.heap.size w w':=by
 have HL:=hid hL
 have HK:=hid hk
 have h64: ¬(64:Int)<(key.size:Int):=by omega
 have hsa:=sliceB_all w.heap.size 0
 clear hL hk
 go_enter Tryz.func237,Tryz.ntmps237
 go_upto_region 4 with fail
 go_upto_region 5 with (first
  | (refine wpList_copy_string rfl (.tmp 13) (.tmp 14) 52 9 rfl 5 Tryz.underlying52 (by kernel_rfl) w.heap.size 0 64 64 key (by rfl) (by rfl) zero64 306 (by exact zero64_new w) HK.o (by have:=HK.o;show 0+key.size≤64;omega) _ (key64_row key HK.o) ?_))
 refine wp_over (fun W=>Hid (W.heap[w.heap.size]? =some (.cells (bvals (key64 (nb key))).toArray 306 (0,0)))∧Hid (Below w.heap.size w W)∧Hid (w.heap.size<W.heap.size)) ⟨?_,?_,?_⟩ ?_
 ·exact setRow_heap _ _ _ _ _ _ (zero64_new w)
 ·exact below_setRow ((Below.refl _ _).alloc (Nat.le_refl _) _) (Nat.le_refl _) _
 ·show _<_;simp [World.setRow]
 rintro V ⟨HV,HBV,HSV⟩
 obtain ⟨N,hN⟩:=ex_eq w.heap.size
 rw [hN] at HV HBV HSV hsa ⊢
 have HN:=hid hN
 clear hN hsa
 have HLV:Hid (Laid V):=hid (HL.o.later HBV.o (by rw [HN.o];exact Nat.le_refl _))
 have hk64:=key64_length (ks:=nb key) (by rw [nb_length];exact HK.o)
 have hkb:=key64_lt (nb_lt key)
 obtain ⟨KS,hKS⟩:=ex_eq (key64 (nb key))
 rw [hKS] at HV hk64 hkb
 have HK64:=hid hk64
 have HKB:=hid hkb
 have HKS:=hid hKS
 clear hk64 hkb hKS
 go_upto_region 6 with fail
 obtain ⟨M,hM⟩:=ex_eq V.heap.size
 have HM:Hid (V.drew.heap.size=M):=hM
 rw [hM] at HSV
 clear hM
 have c0:V.drew.cell? ⟨1,0,none⟩=some (.int .u8 54):=HLV.o.pad0
 have c1:V.drew.cell? ⟨1,1,none⟩=some (.int .u8 92):=HLV.o.pad1
 have HLD:Hid (Laid V.drew):=hid HLV.o.drew
 have HKD:Hid (V.drew.heap[N]? =some (.cells (bvals KS).toArray 306 (0,0))):=HV
 refine Kit.wp_region_mid2 (fun W=>W.cell? ⟨1,0,none⟩=some (.int .u8 54)∧W.cell? ⟨1,1,none⟩=some (.int .u8 92))
  (fun W=>(W.cell? ⟨1,0,none⟩=some (.int .u8 54)∧W.cell? ⟨1,1,none⟩=some (.int .u8 92))∧Hid (∀j u,stateRow.toList[j]? =some u→W.cell? ⟨M,0+j,none⟩=some u))
  [3,4,5] 0 [1,2] [6,7,8,9,10] (by kernel_rfl) (by kernel_rfl) (by kernel_rfl) (by kernel_rfl) (fun _ h=>h.1) ⟨c0,c1⟩ ?_
 repeat (refine Kit.heads_cons (by rfl) (.inl ⟨by rfl,fun w' hS=>by (dsimp only at hS);go_simp;(try with_reducible rfl)⟩) ?_;simp only [Act.put,List.setIfInBounds_toArray,List.set_cons_zero,List.set_cons_succ])
 refine Kit.heads_nil ?_
 refine Kit.midNext_of (by rfl) rfl fun K hK=> ?_
 go_simp
 go_at_call 178
 refine (newState_any _ HLD.o.init).mono ?_
 rintro e w1 ⟨rfl,h1⟩
 have H1:Hid (w1=V.drew.alloc (.cells stateRow 308)):=hid h1
 clear h1
 have hMM:V.drew.heap.size=M:=HM.o
 rw [hMM]
 have HG1:Hid (w1.heap[M]? =some (.cells stateRow 308 (0,0))):=hid (by rw [H1.o,← hMM];exact heap_alloc_new _ _)
 have HB1:Hid (Below M V.drew w1):=hid (by rw [H1.o,← hMM];exact (Below.refl _ _).alloc (Nat.le_refl _) _)
 clear hMM
 have HS1:Hid (M<w1.heap.size):=hid (gS HG1.o).1
 have HL1:Hid (Laid w1):=hid (HLD.o.later HB1.o (by rw [HM.o];exact Nat.le_refl _))
 have HK1:Hid (w1.heap[N]? =some (.cells (bvals KS).toArray 306 (0,0))):=hid ((HB1.o.block N (by have:=HSV.o;omega)).trans HKD.o)
 have hS1:(w1.cell? ⟨1,0,none⟩=some (.int .u8 54)∧w1.cell? ⟨1,1,none⟩=some (.int .u8 92))∧Hid (∀j u,stateRow.toList[j]? =some u→w1.cell? ⟨M,0+j,none⟩=some u):=
  ⟨⟨HL1.o.pad0,HL1.o.pad1⟩,fun j u hj=>by rw [Nat.zero_add,cell_of_row _ _ _ _ _ _ HG1.o,← Array.getElem?_toList];exact hj⟩
 refine hK _ _ ⟨hS1,?_⟩
 clear hK K c0 c1
 refine Kit.heads_cons (by rfl) (.inl ⟨by rfl,fun w' hS=>by (dsimp only at hS);go_simp;(try with_reducible rfl)⟩) ?_
 simp only [Act.put,List.setIfInBounds_toArray,List.set_cons_zero,List.set_cons_succ]
 refine Kit.heads_cons (by rfl) (.inl ⟨by rfl,fun w' hS=>load_cells_yield 308 (.tmp 18) rfl M 0 (by rfl) stateRow.toList hS.2.o _ Tryz.underlying308 rfl (by rw [Array.length_toList,stateRow_size];exact Tryz.size143) stateRow (by simp)⟩) ?_
 simp only [Act.put,List.setIfInBounds_toArray,List.set_cons_zero,List.set_cons_succ]
 refine Kit.heads_nil ?_
 refine Kit.chain_cons (by rfl) rfl fun K hK=> ?_
 go_simp
 go_at_call 285
 refine (padc_any N KS 92 HK64.o HKB.o (by decide) w1 HK1.o).mono ?_
 rintro e w2 ⟨rfl,h2⟩
 have HB2:Hid (Below (M+1) w1 w2):=hid (h2.mono HS1.o)
 clear h2
 have HROs:Hid ((bvals (xorL KS 92)).toArray.size=64):=hid (bvals_arr_size _ (by rw [xorL_length];exact HK64.o))
 obtain ⟨RO,hRO⟩:=ex_eq (bvals (xorL KS 92)).toArray
 rw [hRO] at HROs ⊢
 have HRO:=hid hRO
 clear hRO
 have HSA:Hid (∀W,Below (M+1) w1 W→(W.cell? ⟨1,0,none⟩=some (.int .u8 54)∧W.cell? ⟨1,1,none⟩=some (.int .u8 92))∧Hid (∀j u,stateRow.toList[j]? =some u→W.cell? ⟨M,0+j,none⟩=some u)):=hid (fun W hW=>by
  have hL:Laid W:=HLD.o.later (HB1.o.trans (hW.mono (Nat.le_succ M))) (by rw [HM.o];exact Nat.le_refl _)
  have hG:W.heap[M]? =some (.cells stateRow 308 (0,0)):=(hW.block M (Nat.lt_succ_self M)).trans HG1.o
  exact ⟨⟨hL.pad0,hL.pad1⟩,fun j u hj=>by rw [Nat.zero_add,cell_of_row _ _ _ _ _ _ hG,← Array.getElem?_toList];exact hj⟩)
 refine hK _ _ (HSA.o _ HB2.o) ?_
 clear hK K hS1
 refine Kit.chain_cons (by rfl) rfl fun K hK=> ?_
 refine Kit.wp_build_list 346 [(0,Operand.tmp 19),(1,Operand.tmp 23)] (by rfl) (stateRow++RO) (by exact Kit.built_two Tryz.b146z Tryz.b146f stateRow RO stateRow_size HROs.o) ?_
 refine hK _ _ (HSA.o _ HB2.o) ?_
 clear hK K
 simp only [Act.put,List.setIfInBounds_toArray,List.set_cons_zero,List.set_cons_succ]
 have HRS:Hid ((stateRow++RO).size=137):=hid (by rw [Array.size_append,stateRow_size,HROs.o])
 refine Kit.chain_cons (by rfl) rfl fun K hK=> ?_
 refine Kit.wp_build_list 348 [(0,Operand.tmp 24)] (by rfl) (stateRow++RO) (by exact Kit.built_one Tryz.b148z Tryz.b148f _ HRS.o) ?_
 refine hK _ _ (HSA.o _ HB2.o) ?_
 clear hK K
 simp only [Act.put,List.setIfInBounds_toArray,List.set_cons_zero,List.set_cons_succ]
 refine Kit.chain_cons (by rfl) rfl fun K hK=> ?_
 go_simp
 have HB3:Hid (Below (M+1) w1 (w2.alloc (.cells (stateRow++RO) 348))):=hid (HB2.o.alloc (by have:=HS1.o;have:=HB2.o.size;omega) _)
 refine hK _ _ (HSA.o _ HB3.o) ?_
 clear hK K
 refine Kit.chain_cons (by rfl) rfl fun K hK=> ?_
 go_simp
 refine hK _ _ (HSA.o _ HB3.o) ?_
 clear hK K
 refine Kit.chain_done ?_
 have hG:(w2.alloc (.cells (stateRow++RO) 348)).heap[w2.heap.size]? =some (.cells (stateRow++RO) 348 (0,0)):=heap_alloc_new _ _
 obtain ⟨G,hGe⟩:=ex_eq w2.heap.size
 obtain ⟨w3,hw3⟩:=ex_eq (w2.alloc (.cells (stateRow++RO) 348))
 rw [hw3,hGe] at hG
 rw [hw3] at HB3 ⊢
 rw [hGe]
 have HMG:Hid (M+1≤G):=hid (by have:=HS1.o;have:=HB2.o.size;omega)
 have HG3:Hid (w3.heap[G]? =some (.cells (stateRow++RO) 348 (0,0))):=hG
 have HGS:Hid (G+1≤w3.heap.size):=hid (gS hG).1
 clear hG hGe hw3
 have HN3:Hid (w3.heap[N]? =some (.cells (bvals KS).toArray 306 (0,0))):=hid ((HB3.o.block N (by have:=HSV.o;omega)).trans HK1.o)
 have HL3:Hid (Laid w3):=hid (HLD.o.later (HB1.o.trans (HB3.o.mono (Nat.le_succ M))) (by rw [HM.o];exact Nat.le_refl _))
 have HBN3:Hid (Below N w w3):=hid (HBV.o.trans ((Below.refl N V).drew.trans ((HB1.o.trans (HB3.o.mono (Nat.le_succ M))).mono (by have:=HSV.o;omega))))
 clear HSA HB3 HB2 HB1 HG1 H1 HKD HLD HK1 HL1
 (try simp only [Act.put,List.setIfInBounds_toArray,List.set_cons_zero,List.set_cons_succ])
 have d0:w3.cell? ⟨1,0,none⟩=some (.int .u8 54):=HL3.o.pad0
 have HRIs:Hid ((bvals (xorL KS 54)).toArray.size=64):=hid (bvals_arr_size _ (by rw [xorL_length];exact HK64.o))
 have HRI1:Hid ((bvals (xorL KS 54)).toArray.all (·.oneCell')=true):=hid (all_one (bvals_one _))
 obtain ⟨RI,hRI⟩:=ex_eq (bvals (xorL KS 54)).toArray
 rw [hRI] at HRIs HRI1
 have HRI:=hid hRI
 clear hRI
 go_upto_region 7 with fail
 go_upto_region 8 with (first
  | (go_at_call 285;(with_reducible refine (padc_54 N KS HK64.o HKB.o w3 HN3.o).mono ?_);rintro e w4 ⟨rfl,h4⟩;(rw [HRI.o]);(have HB4:=hid h4);clear h4)
  | (refine wpList_store_row rfl 306 (.tmp 6) (.tmp 30) rfl w4.heap.size RI (by rfl) (by rfl) 306 zero64 (by exact zero64_new w4) (by rw [HRIs.o];exact Tryz.size140) (by rw [HRIs.o];rfl) HRI1.o ?_))
 refine wp_over (fun W=>Hid (W.heap[w4.heap.size]? =some (.cells RI 306 (0,0)))∧Hid (Below w3.heap.size w3 W)) ⟨?_,?_⟩ ?_
 ·exact setRow_heap _ _ _ _ _ _ (zero64_new w4)
 ·exact below_setRow (HB4.o.alloc HB4.o.size _) HB4.o.size _
 rintro w5 ⟨HI5,HB5⟩
 have HIG:Hid (G+1≤w4.heap.size):=hid (by have:=HB4.o.size;have:=HGS.o;omega)
 obtain ⟨I,hI⟩:=ex_eq w4.heap.size
 rw [hI] at HI5 HIG ⊢
 clear hI HB4 d0
 simp only [Act.put]
 have HS5:Hid (StateAt w5 G 0 []):=hid (state_pre ((HB5.o.block G (by have:=HGS.o;omega)).trans HG3.o))
 have HO5:Hid (BytesAt w5 (some ⟨G,73,none⟩) (xorL KS 92)):=hid (row_bytes ((HB5.o.block G (by have:=HGS.o;omega)).trans HG3.o) stateRow_size HRO.o (xorL_lt _ _ HKB.o (by decide)) (by rw [xorL_length,HK64.o];decide))
 have HI6:Hid (BytesAt w5 (some ⟨I,0,none⟩) (xorL KS 54)):=hid (row_bytes0 HI5.o HRI.o (xorL_lt _ _ HKB.o (by decide)) (by rw [xorL_length,HK64.o];decide))
 have HL5:Hid (Laid w5):=hid (HL3.o.later HB5.o (Nat.le_refl _))
 have HBN5:Hid (Below N w w5):=hid (HBN3.o.trans (HB5.o.mono (by have:=HGS.o;have:=HMG.o;have:=HSV.o;omega)))
 have HX54:Hid ((xorL KS 54).length=64):=hid (by rw [xorL_length];exact HK64.o)
 obtain ⟨XI,hXI⟩:=ex_eq (xorL KS 54)
 rw [hXI] at HI6 HX54
 have HXI:=hid hXI
 clear hXI HRI HRIs HRI1 HRO HROs HRS HI5 HG3 HN3 HL3 HBN3
 have hsi:=sliceB_all I 0
 refine Kit.wp_region_heads (fun _=>True) [0,1,2,3,4] [5] (by kernel_rfl) (by kernel_rfl) (by kernel_rfl) (by kernel_rfl) trivial ?_
 repeat (refine Kit.heads_cons (by rfl) (.inl ⟨by rfl,fun w' hS=>by (dsimp only at hS);go_simp;(try with_reducible rfl)⟩) ?_;simp only [Act.put,List.setIfInBounds_toArray,List.set_cons_zero,List.set_cons_succ])
 refine Kit.heads_nil ?_
 refine Kit.chain_cons (by rfl) rfl fun K hK=> ?_
 go_simp
 go_at_call 179
 have hwr:=write_any G 0 [] (some ⟨I,0,none⟩) 64 XI (by rw [HX54.o];exact Nat.le_refl _) (fun e=>by cases e) (by rw [HX54.o];decide) w5.drew (HS5.o.keep (Chg.drew (Chg.refl (fun _ _=>False) _)) (fun _ _ _ h=>h)) HI6.o (fun ad e _=>by cases e;show I≠G;have:=HIG.o;omega) HL5.o.drew.kon (by have:=HMG.o;show G≠ 2;have:=HL5.o.kon.lt;have:=HL.o.kon.lt;have:=HN.o;have:=HSV.o;omega)
 rw [HX54.o] at hwr
 refine hwr.mono ?_
 rintro e w6 ⟨rfl,h6,h7⟩
 have H6:=hid h6
 have H7:=hid h7
 clear h6 h7 hwr hsi
 refine hK _ _ trivial (Kit.chain_done ?_)
 clear hK K
 (try simp only [Act.put,List.setIfInBounds_toArray,List.set_cons_zero,List.set_cons_succ])
 go_wp2_with fail
 go_ret
 refine ⟨G,rfl,by have:=HN.o;have:=HMG.o;have:=HSV.o;omega,⟨by rw [HKS.o,HXI.o,List.append_nil];exact H6.o,by rw [HKS.o];exact bytesAt_keep (w:=w5.drew) HO5.o H7.o (fun i hi hm=>by have:=hm.2.2;omega)⟩,?_⟩
 rw [HN.o]
 exact HBN5.o.trans ((Below.refl N w5).drew.trans (H7.o.below (by have:=HS5.o.lt;have:=HMG.o;have:=HSV.o;show N≤w5.heap.size;omega) (fun k i hk hm=>by have:=hm.1;have:=HMG.o;have:=HSV.o;omega)))

theorem macWrite_any (g:Nat) (K ps:List Nat) (a:Option Addr) (cap:Nat) (xs:List Nat) (hcap:xs.length≤cap) (hnil:a=none→cap=0) (hl:ps.length+xs.length≤1000000) (hK:K.length=64) (w:World) (h:MacAt w g K ps) (hB:BytesAt w a xs) (hlt: ∀ad,a=some ad→0<xs.length→ad.block≠g) (hL:Laid w) (hg:g≠ 2):
    Calls Tryz.prog 238 #[.pointer (some ⟨g,0,none⟩),.slice a xs.length cap] w fun e w'=>e= .returned (.tuple #[])∧MacAt w' g K (ps++xs)∧Chg (stateCells g 0) w w':=by
 have HH:=hid h
 have HB:=hid hB
 have HL:=hid hL
 have HLT:=hid hlt
 have HXL:Hid ((xorL K 54).length=64):=hid (by rw [xorL_length];exact hK)
 clear h hB hL hlt hK
 go_enter Tryz.func238,Tryz.ntmps238
 go_wp2_with (first
  | (with_reducible refine (write_any g 0 (xorL K 54++ps) a cap xs hcap hnil (by rw [List.length_append,HXL.o];omega) _ HH.o.state HB.o HLT.o HL.o.kon hg).mono ?_
     rintro e w2 ⟨rfl,h2,h3⟩
     have H2:=hid h2
     have H3:=hid h3
     clear h2 h3))
 go_end0
 exact ⟨rfl,⟨by rw [← List.append_assoc];exact H2.o,bytesAt_keep HH.o.outer H3.o (fun i hi hm=>by have:=hm.2.2;omega)⟩,H3.o⟩
theorem conv64 {W:World} {a:Option Addr} {bs:List Nat} (h:BytesAt W a bs) (hl:bs.length=64):(convert 52 9 (.slice a 64 64)).run Tryz.prog W= .ok (.string (strB bs)) W:=by
 have:=conv_bytes h 64
 rwa [hl] at this
theorem macSum_any (g:Nat) (K ps:List Nat) (hl:ps.length≤1000000) (hK:K.length=64) (w:World) (h:MacAt w g K ps) (hL:Laid w):
    Calls Tryz.prog 239 #[.pointer (some ⟨g,0,none⟩)] w fun e w'=> ∃bs:List Nat,e= .returned (.string (strB bs))∧bs=Sha.sum (xorL K 92++Sha.sum (xorL K 54++ps))∧Below w.heap.size w w':=by
 have HXL:Hid ((xorL K 54++ps).length≤100000000000):=hid (by rw [List.length_append,xorL_length];omega)
 have HOL:Hid ((xorL K 92).length=64):=hid (by rw [xorL_length];exact hK)
 have HS:Hid (StateAt w.drew g 0 (xorL K 54++ps)):=hid (h.state.keep (Chg.drew (Chg.refl (fun _ _=>False) _)) (fun _ _ _ h=>h))
 have HO:Hid (BytesAt w.drew (some ⟨g,73,none⟩) (xorL K 92)):=hid h.outer
 have HL:=hid hL.drew
 obtain ⟨XI,hXI⟩:=ex_eq (xorL K 54++ps)
 obtain ⟨XO,hXO⟩:=ex_eq (xorL K 92)
 rw [hXI] at HXL HS
 rw [hXO] at HOL HO
 have HXI:=hid hXI
 have HXO:=hid hXO
 clear h hL hXI hXO hK
 have hsi:=sliceB_all g 73
 have hsw:w.drew.heap.size=w.heap.size:=rfl
 have HSW:=hid hsw
 clear hsw
 go_enter Tryz.func239,Tryz.ntmps239
 go_upto_region 1 with fail
 refine Kit.wp_region_heads (fun W=>Hid (BytesAt W (some ⟨g,73,none⟩) XO)) [0,1,2,3,4,5,6,7,8,9] [10,11,12,13] (by kernel_rfl) (by kernel_rfl) (by kernel_rfl) (by kernel_rfl) HO.o ?_
 iterate 5 (refine Kit.heads_cons (by rfl) (.inl ⟨by rfl,fun w' hS=>by (dsimp only at hS);go_simp;(try with_reducible rfl)⟩) ?_;simp only [Act.put,List.setIfInBounds_toArray,List.set_cons_zero,List.set_cons_succ])
 refine Kit.heads_cons (by rfl) (.inl ⟨by rfl,fun w' hS=>by have hcv:=conv64 hS.o HOL.o;clear hS;go_simp;(try with_reducible rfl)⟩) ?_
 simp only [Act.put,List.setIfInBounds_toArray,List.set_cons_zero,List.set_cons_succ]
 repeat (refine Kit.heads_cons (by rfl) (.inl ⟨by rfl,fun w' hS=>by (dsimp only at hS);go_simp;(try with_reducible rfl)⟩) ?_;simp only [Act.put,List.setIfInBounds_toArray,List.set_cons_zero,List.set_cons_succ])
 refine Kit.heads_nil ?_
 refine Kit.chain_cons (by rfl) rfl fun K0 hK0=> ?_
 go_simp
 go_at_call 180
 refine (stateSum_any g 0 XI HXL.o w.drew HS.o HL.o.kon).mono ?_
 rintro e w1 ⟨is,rfl,h1,h2⟩
 have H1:=hid h1
 have H2:=hid h2
 clear h1 h2
 refine hK0 _ _ (HO.o.later H2.o) ?_
 clear hK0 K0
 refine Kit.chain_cons (by rfl) rfl fun K0 hK0=> ?_
 go_simp
 have H3:Hid (Below w.drew.heap.size w.drew (w1.alloc (.cells #[.string (strB XO),.string (strB is)] 9))):=hid (H2.o.alloc H2.o.size _)
 refine hK0 _ _ (HO.o.later H3.o) ?_
 clear hK0 K0
 refine Kit.chain_cons (by rfl) rfl fun K0 hK0=> ?_
 go_simp
 go_at_call 244
 have HST:Hid (StrsAt (w1.alloc (.cells #[.string (strB XO),.string (strB is)] 9)) (some ⟨w1.heap.size,0,none⟩) [strB XO,strB is]):=hid (by
  refine .inr ⟨_,_,rfl,fun i hi=> ?_⟩
  rw [Nat.zero_add,cell_of_row _ _ _ _ _ _ (heap_alloc_new _ _)]
  match i,hi with
  | 0,_=>rfl
  | 1,_=>rfl)
 have HIL:Hid (is.length=32∧ ∀x ∈ is,x<256):=hid (by rw [H1.o];exact ⟨Sha.sum_length _,Sha.sum_lt _⟩)
 have HOB:Hid (∀x ∈ XO,x<256):=HO.o.2.1
 have HCAT:Hid (catB [strB XO,strB is]=XO++is):=hid (by
  have:=catB_strs [XO,is] (fun s hs=>by
   rcases List.mem_cons.1 hs with e | hs
   ·rw [e];exact HOB.o
   ·rw [List.mem_singleton.1 hs];exact HIL.o.2)
  simpa using this)
 have hj:=join_any (some ⟨w1.heap.size,0,none⟩) 2 [strB XO,strB is] (by rw [HCAT.o,List.length_append,HOL.o,HIL.o.1];decide) (by simp) _ HST.o (HL.o.later H3.o (Nat.le_refl _)).kon (HL.o.later H3.o (Nat.le_refl _)).init
 refine hj.mono ?_
 rintro e w2 ⟨bs,rfl,h4,h5⟩
 have H4:=hid h4
 have H5:=hid (H3.o.trans (h5.mono H3.o.size))
 clear h4 h5 hj
 refine hK0 _ _ (HO.o.later H5.o) ?_
 clear hK0 K0
 refine Kit.chain_cons (by rfl) rfl fun K0 hK0=> ?_
 go_simp
 refine hK0 _ _ (HO.o.later H5.o) (Kit.chain_done ?_)
 clear hK0 K0
 (try simp only [Act.put,List.setIfInBounds_toArray,List.set_cons_zero,List.set_cons_succ])
 go_wp2_with fail
 go_ret
 refine ⟨bs,rfl,by rw [H4.o,HCAT.o,H1.o,HXO.o,HXI.o],?_⟩
 rw [← HSW.o]
 exact (Below.refl _ w).drew.trans H5.o

theorem tag_any (key:ByteArray) (hk:key.size≤64) (a:Option Addr) (cap:Nat) (xs:List Nat) (hcap:xs.length≤cap) (hnil:a=none→cap=0) (hl:xs.length≤1000) (w:World) (hB:BytesAt w a xs) (hlt: ∀ad,a=some ad→0<xs.length→ad.block<w.heap.size) (hL:Laid w):
    Calls Tryz.prog 168 #[.string key,.slice a xs.length cap] w fun e w'=> ∃bs:List Nat,e= .returned (.string (strB bs))∧bs=tag (nb key) xs∧Below w.heap.size w w':=by
 have HB:=hid hB
 have HL:=hid hL
 have HLT:=hid hlt
 have HNIL:=hid hnil
 have HCAP:=hid hcap
 have HLL:=hid hl
 have HKL:Hid ((key64 (nb key)).length=64):=hid (key64_length (by rw [nb_length];exact hk))
 clear hB hL hlt hnil hcap hl
 go_enter Tryz.func168,Tryz.ntmps168
 go_upto_region 2 with (first
  | (with_reducible refine (macNew_any key hk _ HL.o).mono ?_
     rintro e w1 ⟨g,rfl,h1,h2,h3⟩
     have H1:=hid h1
     have H2:=hid h2
     have H3:=hid h3
     clear h1 h2 h3))
 have HL1:Hid (Laid w1):=hid (HL.o.later H3.o (Nat.le_refl _))
 have HGK:Hid (g≠ 2):=hid (by have:=HL.o.kon.lt;have:=H1.o;omega)
 have HB1:Hid (BytesAt w1 a xs):=hid (HB.o.later H3.o)
 have HLT1:Hid (∀ad,a=some ad→0<xs.length→ad.block≠g):=hid (fun ad e h=>by have:=HLT.o ad e h;have:=H1.o;omega)
 go_upto_region 3 with (first
  | (with_reducible refine (macWrite_any g (key64 (nb key)) [] a cap xs HCAP.o HNIL.o (by have:=HLL.o;simp;omega) HKL.o _ H2.o HB1.o HLT1.o HL1.o HGK.o).mono ?_
     rintro e w2 ⟨rfl,h4,h5⟩
     have H4:=hid h4
     have H5:=hid h5
     clear h4 h5))
 have HB2:Hid (Below w.heap.size w w2):=hid (H3.o.trans (H5.o.below (H3.o.size) (fun k i hk hm=>by have:=hm.1;have:=H1.o;omega)))
 have HL2:Hid (Laid w2):=hid (HL.o.later HB2.o (Nat.le_refl _))
 go_wp2_with (first
  | (with_reducible refine (macSum_any g (key64 (nb key)) ([]++xs) (by have:=HLL.o;simp;omega) HKL.o _ H4.o HL2.o).mono ?_
     rintro e w3 ⟨bs,rfl,h6,h7⟩
     have H6:=hid h6
     have H7:=hid h7
     clear h6 h7))
 go_ret
 exact ⟨bs,rfl,H6.o,HB2.o.trans (H7.o.mono HB2.o.size)⟩
theorem num_pow (k:Nat): ∀n,n<128 ^ (k+1)→(num n).length≤k+1:=by
 induction k with
 | zero=>intro n h;rw [num_small (by simpa using h)];simp
 | succ k ih=>
   intro n h
   by_cases h1:n<128
   ·rw [num_small h1];simp
   ·rw [num_big (by omega),List.length_cons]
    have:=ih (n/128) (by rw [Nat.div_lt_iff_lt_mul (by decide),← Nat.pow_succ];exact h)
    omega
theorem num_len10 {n:Nat} (h:n<18446744073709551616):(num n).length≤10:=num_pow 9 n (by omega)
theorem or128 (n:Nat):bits .or .u8 ((n:Int) % 256) 128=((n % 128+128:Nat):Int):=by
 have e:(n:Int) % 256=((n % 256:Nat):Int):=by omega
 rw [e]
 show IntKind.u8.wrap ((BitVec.ofInt 8 ((n % 256:Nat):Int) ||| BitVec.ofInt 8 (128:Int)).toNat:Int)=_
 rw [BitVec.toNat_or,ofInt8 _ (by omega),show (BitVec.ofInt 8 (128:Int)).toNat=128 from rfl]
 have h2: ∀x:Fin 256,(x:Nat) ||| 128=(x:Nat) % 128+128:=by decide
 have h3:=h2 ⟨n % 256,Nat.mod_lt _ (by decide)⟩
 simp only at h3
 rw [h3,IntKind.wrap_u8]
 omega
theorem extend_any (base:Nat) (x:Value) (bs:List Nat) (n:Nat) (hn:n<18446744073709551616) (hl:bs.length≤100000) (w:World) (hO:w.ownsRow base 5 1 x bs.length (bvals bs)) (hb:base≤w.heap.size):
    Calls Tryz.prog 200 #[x,.int .u64 (n:Int)] w fun e w'=> ∃v',e= .returned v'∧w'.ownsRow base 5 1 v' (bs++num n).length (bvals (bs++num n))∧Chg (fun q _=>base≤q) w w':=by
 have HO:=hid hO
 have HN10:=hid (num_len10 hn)
 have HL:=hid hl
 have HBB:=hid hb
 obtain ⟨i0,hi,hz0,hz1,hz2⟩:=info_parts Tryz.info5
 have FI:=hid hi
 have FZ0:=hid hz0
 have FZ1:=hid hz1
 have FZ2:=hid hz2
 clear hi hz0 hz1 hz2 hO hl hb
 go_enter Tryz.func200,Tryz.ntmps200
 go_wp2_with fail
 go_loopw [0,1] (fun x y wr=> ∃(k:Nat) (cur:List Nat),y= .int .u64 (k:Int)∧k<18446744073709551616∧Hid (cur++num k=bs++num n)∧Hid (wr.ownsRow base 5 1 x cur.length (bvals cur))∧Hid (Chg (fun q _=>base≤q) w wr)) (fun _ y _=>(intOf y).toNat)
 case atStart=>exact ⟨n,bs,rfl,hn,rfl,HO.o,Chg.refl _ _⟩
 case round=>
  obtain ⟨k,cur,rfl,hk,HE,HOW,HC⟩:=hrel
  have HCL:Hid (cur.length≤100010):=hid (by have:=congrArg List.length HE.o;rw [List.length_append,List.length_append] at this;have:=HN10.o;have:=HL.o;omega)
  have HBS:Hid (base≤wr.heap.size):=hid (by have:=HC.o.size;have:=HBB.o;omega)
  by_cases h128:128≤k
  ·have hi128:(128:Int)≤(k:Int):=by omega
   have HBV:Hid (bvals cur++[.int .u8 (bits .or .u8 ((k:Int) % 256) 128)]=bvals (cur++[k % 128+128])):=hid (by rw [bvals_snoc,or128])
   have HNE:Hid (cur++[k % 128+128]++num (k/128)=bs++num n):=hid (by rw [← HE.o,num_big h128];simp)
   go_wp2_with (first
    | (at_builtin
       refine wpList_append_own _ rfl _ _ 52 rfl base 5 i0 (.int .u8 0) 1 1 Tryz.underlying52 FI.o FZ0.o FZ1.o FZ2.o rfl (by decide) _ _ _ rfl (HOW.o.alloc _) ⟨wr.heap.size,0,none⟩ 1 1 [.int .u8 (bits .or .u8 ((k:Int) % 256) 128)] rfl rfl (cell_one_new _ _ _) (by simp [Value.oneCell']) (by have:=HCL.o;unfold maxLen;omega) (by have:=HCL.o;omega) (by have:=HBS.o;simp;omega) ?_
       intro v' w4 hown4 hgr4 _
       have HO4:Hid (w4.ownsRow base 5 1 v' (cur.length+1) (bvals (cur++[k % 128+128]))):=by rw [← HBV.o];exact hown4
       have HC4:Hid (Chg (fun q _=>base≤q) wr w4):=(Chg.alloc1 wr _).trans (Chg.of_grown hgr4 (fun q _ e=>(HOW.o.lt q e).1))
       clear hown4 hgr4))
   go_roundw
   case rel=>exact ⟨k/128,cur++[k % 128+128],by go_num,by omega,HNE.o,by rw [List.length_append];exact HO4.o,HC.o.trans HC4.o⟩
   case measure=>simp [intOf];omega
  ·have hi128: ¬(128:Int)≤(k:Int):=by omega
   have HBV:Hid (bvals cur++[.int .u8 (k:Int)]=bvals (cur++[k])):=hid (by rw [bvals_snoc])
   have HNE:Hid (cur++[k]=bs++num n):=hid (by rw [← HE.o,num_small (by omega)])
   go_wp2_with (first
    | (at_builtin
       refine wpList_append_own _ rfl _ _ 52 rfl base 5 i0 (.int .u8 0) 1 1 Tryz.underlying52 FI.o FZ0.o FZ1.o FZ2.o rfl (by decide) _ _ _ rfl (HOW.o.alloc _) ⟨wr.heap.size,0,none⟩ 1 1 [.int .u8 (k:Int)] rfl rfl (cell_one_new _ _ _) (by simp [Value.oneCell']) (by have:=HCL.o;unfold maxLen;omega) (by have:=HCL.o;omega) (by have:=HBS.o;simp;omega) ?_
       intro v' w4 hown4 hgr4 _
       have HO4:Hid (w4.ownsRow base 5 1 v' (cur.length+1) (bvals (cur++[k]))):=by rw [← HBV.o];exact hown4
       have HC4:Hid (Chg (fun q _=>base≤q) wr w4):=(Chg.alloc1 wr _).trans (Chg.of_grown hgr4 (fun q _ e=>(HOW.o.lt q e).1))
       clear hown4 hgr4))
   go_ret
   refine ⟨_,rfl,?_,HC.o.trans HC4.o⟩
   have h:=HO4.o
   have e:cur.length+1=(bs++num n).length:=by rw [← HNE.o];simp
   rw [e,HNE.o,List.length_append] at h
   exact h
theorem appUint_any (a:Option Addr) (cap:Nat) (xs:List Nat) (hnil:a=none→cap=0) (n:Nat) (hn:n<18446744073709551616) (hl:xs.length≤10000) (w:World) (hB:BytesAt w a xs):
    Calls Tryz.prog 169 #[.slice a xs.length cap,.int .u64 (n:Int)] w fun e w'=> ∃v' c,e= .returned v'∧c=(xs++num n).length∧w'.ownsRow w.heap.size 5 1 v' c (bvals (xs++num n))∧Below w.heap.size w w':=by
 have HB:=hid hB
 have HL:=hid hl
 have HNIL:=hid hnil
 obtain ⟨i0,hi,hz0,hz1,hz2⟩:=info_parts Tryz.info5
 have FI:=hid hi
 have FZ0:=hid hz0
 have FZ1:=hid hz1
 have FZ2:=hid hz2
 clear hi hz0 hz1 hz2 hB hnil
 go_enter Tryz.func169,Tryz.ntmps169
 go_wp2_with (first
  | (at_make
     refine wpList_make_own _ rfl (.const (.int .i64 0)) (.tmp 7) 52 rfl w.heap.size 5 i0 (.int .u8 0) 1 Tryz.underlying52 FI.o FZ0.o FZ1.o .i64 .i64 ((xs.length:Int)+10) (xs.length+10) (by rfl) (by rfl) (by omega) (by rw [FZ2.o];have:=HL.o;omega) (by have:=HL.o;unfold maxLen;omega) (Nat.le_refl _) ?_
     intro w1 hown1 hgr1
     have HO1:=hid hown1
     have HB1:Hid (Below w.heap.size w w1):=hid ((Chg.of_grown (M:=fun _ _=>False) hgr1 (fun q _ e=>by cases e)).below (Nat.le_refl _) (fun _ _ _ h=>h))
     have HBY1:=hid (HB.o.later HB1.o)
     clear hown1 hgr1)
  | (at_builtin
     refine wpList_append_src rfl (.tmp 8) (.tmp 9) 52 rfl w.heap.size 5 i0 (.int .u8 0) 1 1 Tryz.underlying52 FI.o FZ0.o FZ1.o FZ2.o rfl (by decide) _ _ _ (by rfl) HO1.o a xs.length cap (bvals xs) (by rfl) (HBY1.o.src cap HNIL.o) (bvals_one _) (by have:=HL.o;unfold maxLen;omega) (by have:=HL.o;omega) (by have:=HB1.o.size;omega) ?_
     intro v2 w2 hown2 hgr2
     have HO2:Hid (w2.ownsRow w.heap.size 5 1 v2 xs.length (bvals xs)):=by have h:=hown2;rw [Nat.zero_add,List.nil_append] at h;exact h
     have HC2:Hid (Chg (fun q _=>w.heap.size≤q) w1 w2):=Chg.of_grown hgr2 (fun q _ e=>(HO1.o.lt q e).1)
     have HB2:Hid (Below w.heap.size w w2):=hid (HB1.o.trans (HC2.o.below HB1.o.size (fun q i hq h=>by omega)))
     clear hown2 hgr2)
  | (with_reducible refine (extend_any w.heap.size v2 xs n hn (by have:=HL.o;omega) w2 HO2.o HB2.o.size).mono ?_
     rintro e w3 ⟨v3,rfl,h3,h4⟩
     obtain ⟨c,hc⟩:=ex_eq (xs++num n).length
     rw [hc] at h3
     have HC:=hid hc
     have H3:=hid h3
     have H4:=hid h4
     clear h3 h4 hc))
 go_ret
 exact ⟨_,c,rfl,HC.o.symm,H3.o,HB2.o.trans (H4.o.below HB2.o.size (fun q i hq h=>by omega))⟩
def VP (B S:Int):Prop:=(B=1∨B=2∨B=4∨B=8)∧1≤S∧S≤32
instance (B S:Int):Decidable (VP B S):=by unfold VP;infer_instance
theorem isSum_any (s:ByteArray) (w:World):Calls Tryz.prog 171 #[.string s] w fun e w'=>e= .returned (.bool (decide (s.size=32)))∧w=w':=by
 have e:((s.size:Int)==32)=decide (s.size=32):=by
  rw [Bool.eq_iff_iff,beq_iff_eq,decide_eq_true_eq];omega
 go_enter Tryz.func171,Tryz.ntmps171
 go_wp2
 go_ret
 exact ⟨by first | rfl | (rw [← e];rfl) | simp [e],rfl⟩
theorem validChain_any (c:Int) (w:World):Calls Tryz.prog 286 #[.int .i64 c] w fun e w'=>e= .returned (.bool (decide (0≤c∧c≤999)))∧w=w':=by
 go_enter Tryz.func286,Tryz.ntmps286
 by_cases h0:0≤c
 ·by_cases h1:c≤999
  ·go_wp2
   go_ret
   refine ⟨?_,rfl⟩
   rw [decide_eq_true ⟨h0,h1⟩]
   rfl
  ·go_wp2
   go_ret
   refine ⟨?_,rfl⟩
   rw [decide_eq_false (fun h=>by omega)]
   rfl
 ·go_wp2
  go_ret
  refine ⟨?_,rfl⟩
  rw [decide_eq_false (fun h=>by omega)]
  rfl
theorem last_any (B S:Int) (b:Nat) (hb:B=(b:Int)) (hB:Bits b) (w:World):Calls Tryz.prog 174 #[.agg #[.int .i64 B,.int .i64 S]] w fun e w'=>e= .returned (.int .i64 (last b:Int))∧Below w.heap.size w w':=by
 subst hb
 rcases hB with rfl | rfl | rfl | rfl
 all_goals
  go_enter Tryz.func174,Tryz.ntmps174
  go_wp2
  go_ret
  exact ⟨by rfl,(Below.refl _ _).alloc (Nat.le_refl _) _⟩
theorem idx4 (k:Nat) (h:k<4) (W:World):(Instr.index 298 (.agg #[.int .i64 1,.int .i64 2,.int .i64 4,.int .i64 8]) (.int .i64 (k:Int))).run Tryz.prog W= .ok (.int .i64 ([1,2,4,8].getD k (0:Int))) W:=by
 have hu: Tryz.prog.underlying 298 =some (.array 4 3):= Tryz.underlying298
 have hk:(0:Int)≤(k:Int)∧(k:Int)<(4:Nat):=by omega
 simp [Instr.index,run_underlying hu,asIntOf,hk,go_sem]
 match k,h with
 | 0,_=>rfl
 | 1,_=>rfl
 | 2,_=>rfl
 | 3,_=>rfl
theorem valid_any (B S:Int) (w:World):Calls Tryz.prog 170 #[.agg #[.int .i64 B,.int .i64 S]] w fun e w'=>e= .returned (.bool (decide (VP B S)))∧Below w.heap.size w w':=by
 by_cases h1:1≤S
 ·by_cases h2:S≤32
  ·go_enter Tryz.func170,Tryz.ntmps170
   go_upto_region 3 with fail
   refine wp_over (fun W=>Hid (W.heap[w.heap.size]? =some (.cells #[.int .i64 B,.int .i64 S] 139 (0,0)))∧Hid (Below w.heap.size w W)) ⟨heap_alloc_new _ _,(Below.refl _ _).alloc (Nat.le_refl _) _⟩ ?_
   rintro W ⟨HG,HB⟩
   obtain ⟨N,hN⟩:=ex_eq w.heap.size
   rw [hN] at HG HB ⊢
   have HN:=hid hN
   clear hN
   have c0:W.cell? ⟨N,0,none⟩=some (.int .i64 B):=cr HG.o
   have c1:W.cell? ⟨N,1,none⟩=some (.int .i64 S):=cr HG.o
   go_wp2_with fail
   go_loopw [14] (fun x wr=> ∃k:Nat,k≤4∧x= .int .i64 (k:Int)∧wr=W∧Hid (∀j,j<k→B≠[1,2,4,8].getD j 0)) (fun x _=>4 - (intOf x).toNat)
   case atStart=>exact ⟨0,by omega,rfl,rfl,fun j h=>by omega⟩
   case round=>
    obtain ⟨k,hk,rfl,rfl,HNE⟩:=hrel
    by_cases hlt:k<4
    ·have hki:(k:Int)<4:=by omega
     have hidx:=idx4 k hlt
     have HX4:Hid (∀X:Int,[1,2,4,8].getD k (0:Int)=X→X=1∨X=2∨X=4∨X=8):=hid (by
      rintro X rfl
      match k,hlt with
      | 0,_=>decide
      | 1,_=>decide
      | 2,_=>decide
      | 3,_=>decide)
     obtain ⟨X,hX⟩:=ex_eq ([1,2,4,8].getD k (0:Int))
     rw [hX] at hidx
     have HX:=hid hX
     clear hX
     by_cases hb:B=X
     ·go_wp2_with fail
      go_ret
      refine ⟨?_,by rw [HN.o];exact HB.o⟩
      rw [show decide (VP B S)=true from decide_eq_true ⟨by rw [hb];exact HX4.o X HX.o,h1,h2⟩]
      rfl
     ·go_wp2_with fail
      go_roundw
      case rel=>
       refine ⟨k+1,by omega,by go_num,trivial,fun j hj=> ?_⟩
       by_cases e:j=k
       ·subst e;rw [HX.o];exact hb
       ·exact HNE.o j (by omega)
      case measure=>simp [intOf];omega
    ·have e4:k=4:=by omega
     subst e4
     rw [show (((4:Nat)):Int)=4 from rfl]
     have n0:=HNE.o 0 (by decide)
     have n1:=HNE.o 1 (by decide)
     have n2:=HNE.o 2 (by decide)
     have n3:=HNE.o 3 (by decide)
     have HF:Hid (decide (VP B S)=false):=hid (decide_eq_false (fun h=>by
      rcases h.1 with e | e | e | e
      ·exact n0 e
      ·exact n1 e
      ·exact n2 e
      ·exact n3 e))
     clear n0 n1 n2 n3 HNE
     go_wp2_with fail
     go_ret
     refine ⟨?_,by rw [HN.o];exact HB.o⟩
     rw [HF.o]
     rfl
  ·go_enter Tryz.func170,Tryz.ntmps170
   go_wp2
   go_ret
   refine ⟨?_,(Below.refl _ _).alloc (Nat.le_refl _) _⟩
   rw [show decide (VP B S)=false from decide_eq_false (fun h=>by have:=h.2.2;omega)]
   rfl
 ·go_enter Tryz.func170,Tryz.ntmps170
  go_wp2
  go_ret
  refine ⟨?_,(Below.refl _ _).alloc (Nat.le_refl _) _⟩
  rw [show decide (VP B S)=false from decide_eq_false (fun h=>by have:=h.2.1;omega)]
  rfl
theorem cnt_pow {b g:Nat} (hB:Bits b) (hg:g≠0) (hg2:g≤8160) (c:Nat) (hc:c≤cnt b g):2 ^ (b*c)≤2088960:=by
 have hb8:2 ^ b≤256:=by rcases hB with rfl | rfl | rfl | rfl<;> decide
 by_cases h:c<cnt b g
 ·have:=(cnt_lt hB.pos hg c).1 h
  omega
 ·by_cases h0:c=0
  ·subst h0;simp
  ·have h1:=(cnt_lt hB.pos hg (c - 1)).1 (by omega)
   obtain ⟨d,rfl⟩: ∃d,c=d+1:=⟨c - 1,by omega⟩
   rw [Nat.add_sub_cancel] at h1
   rw [Nat.mul_add,Nat.mul_one,Nat.pow_add]
   calc 2 ^ (b*d)*2 ^ b≤8160*256:=Nat.mul_le_mul (by omega) hb8
    _≤2088960:=by decide
theorem great_le {b n:Nat} (hB:Bits b) (hn:n≤32):great b n≤8160:=by
 unfold great last
 rcases hB with rfl | rfl | rfl | rfl<;> omega
theorem cnt_le {b g:Nat} (hB:Bits b) (hg2:g≤8160):cnt b g≤13:=by
 have h0:=hB.pos
 unfold cnt
 have h:g.log2≤12:=by
  by_cases hg:g=0
  ·subst hg;decide
  ·have h2:=Nat.log2_self_le hg
   refine Nat.le_of_not_lt fun h=> ?_
   have:2 ^ 13≤2 ^ g.log2:=Nat.pow_le_pow_right (by decide) h
   omega
 have:g.log2/b≤g.log2:=Nat.div_le_self _ _
 omega
theorem counts_any (b n:Nat) (hB:Bits b) (hn:0<n) (hn2:n≤32) (w:World):Calls Tryz.prog 240 #[.agg #[.int .i64 (b:Int),.int .i64 (n:Int)]] w fun e w'=> ∃m c:Nat,e= .returned (.tuple #[.int .i64 (m:Int),.int .i64 (c:Int)])∧m=8*n/b∧c=cnt b (great b n)∧Below w.heap.size w w':=by
 have HGR:Hid (8*n/b*last b=great b n):=rfl
 have hg2:=great_le hB hn2
 have hg0:=great_ne hB hn
 have HCP:=hid (cnt_pow hB hg0 hg2)
 have HCL:=hid (cnt_lt hB.pos hg0)
 have HC13:=hid (cnt_le hB hg2)
 have HPS:Hid (∀c,2 ^ (b*(c+1))=2 ^ (b*c)*2 ^ b):=hid (fun c=>by rw [Nat.mul_add,Nat.mul_one,Nat.pow_add])
 obtain ⟨m,hm⟩:=ex_eq (8*n/b)
 obtain ⟨g,hg⟩:=ex_eq (great b n)
 rw [hm,hg] at HGR
 rw [hg] at hg2 HCP HCL HC13 ⊢
 rw [hm]
 have HM:=hid hm
 have hm2:m≤256:=by rcases hB with rfl | rfl | rfl | rfl<;> omega
 clear hm hg hg0
 obtain ⟨C,hC⟩:=ex_eq (cnt b g)
 rw [hC] at HCP HCL HC13 ⊢
 clear hC
 have HB0:=hid hB
 have hdiv:8*n/b=m:=HM.o
 have hidiv:(8*(n:Int)).tdiv (b:Int)=(m:Int):=by
  rw [Int.tdiv_eq_ediv_of_nonneg (by omega),← hdiv]
  rw [Int.natCast_ediv,Int.natCast_mul];rfl
 have hbz: ¬b=0:=by have:=hB.pos;omega
 have hb8:b≤8:=by rcases hB with rfl | rfl | rfl | rfl<;> omega
 have HL:=hid (fun w=>last_any (b:Int) (n:Int) b rfl hB w)
 obtain ⟨L,hL⟩:=ex_eq (last b)
 rw [hL] at HL HGR
 clear hdiv hB hL
 have hmg:(m:Int)*(L:Int)=(g:Int):=by rw [← Int.natCast_mul,HGR.o]
 go_enter Tryz.func240,Tryz.ntmps240
 go_upto_region 1 with fail
 refine wp_over (fun W=>Hid (W.heap[w.heap.size]? =some (.cells #[.int .i64 (b:Int),.int .i64 (n:Int)] 139 (0,0)))∧Hid (Below w.heap.size w W)) ⟨heap_alloc_new _ _,(Below.refl _ _).alloc (Nat.le_refl _) _⟩ ?_
 rintro W ⟨HG,HB⟩
 obtain ⟨N,hN⟩:=ex_eq w.heap.size
 rw [hN] at HG HB ⊢
 have HN:=hid hN
 clear hN
 have c0:W.cell? ⟨N,0,none⟩=some (.int .i64 (b:Int)):=cr HG.o
 have c1:W.cell? ⟨N,1,none⟩=some (.int .i64 (n:Int)):=cr HG.o
 go_upto_region 2 with fail
 go_upto_region 3 with (first
  | (with_reducible refine (HL.o _).mono ?_
     rintro e w2 ⟨rfl,h2⟩
     have H2:=hid h2
     clear h2))
 have d0:w2.cell? ⟨N,0,none⟩=some (.int .i64 (b:Int)):=(H2.o.cell (World.block_lt_of_cell? W _ c0)).trans c0
 have HB2:Hid (Below N w w2):=hid (HB.o.trans (H2.o.mono (by have:=World.block_lt_of_cell? W _ c0;exact Nat.le_of_lt this)))
 clear c0 c1 hmg hidiv
 go_wp2_with fail
 go_loopw [6,7] (fun x y wr=> ∃c:Nat,c≤C∧x= .int .i64 (c:Int)∧y= .int .i64 ((2 ^ (b*c):Nat):Int)∧wr=w2) (fun x _ _=>C - (intOf x).toNat)
 case atStart=>exact ⟨0,Nat.zero_le _,rfl,by simp,rfl⟩
 case round=>
  obtain ⟨c,hc,rfl,rfl,rfl⟩:=hrel
  have hp:=HCP.o c hc
  have hp2:=HPS.o c
  have hlt:=HCL.o c
  obtain ⟨P,hP⟩:=ex_eq (2 ^ (b*c))
  rw [hP] at hp hp2 hlt ⊢
  have HP2:=hid hp2
  clear hp2 hP
  by_cases h:c<C
  ·have hpi:(P:Int)≤(g:Int):=by have:=hlt.1 h;omega
   clear hlt
   have hP2:(P:Int)*2 ^ b=((2 ^ (b*(c+1)):Nat):Int):=by rw [HP2.o,Int.natCast_mul,Int.natCast_pow];rfl
   have hp3:=HCP.o (c+1) h
   have hc13:c+1≤13:=by have:=HC13.o;omega
   obtain ⟨P2,hPP⟩:=ex_eq (2 ^ (b*(c+1)))
   rw [hPP] at hP2 hp3
   have HPP:=hid hPP
   clear hPP
   go_wp2_with fail
   go_roundw
   case rel=>exact ⟨c+1,h,by go_num,by rw [HPP.o],trivial⟩
   case measure=>simp [intOf];omega
  ·have hpi: ¬(P:Int)≤(g:Int):=by have: ¬P≤g:=fun e=>h (hlt.2 e);omega
   clear hlt
   go_wp2_with fail
   go_ret2
   exact ⟨m,c,rfl,rfl,by have:=HC13.o;omega,by rw [HN.o];exact HB2.o⟩
theorem chains_ok (b n:Nat) (hB:Bits b) (hn:0<n) (hn2:n≤32) (w:World):Calls Tryz.prog 172 #[.agg #[.int .i64 (b:Int),.int .i64 (n:Int)]] w fun e w'=> ∃m:Nat,e= .returned (.int .i64 (m:Int))∧m=count b n∧Below w.heap.size w w':=by
 have HV:Hid (decide (VP (b:Int) (n:Int))=true):=hid (decide_eq_true ⟨by rcases hB with rfl | rfl | rfl | rfl<;> simp,by omega,by omega⟩)
 have HC:=hid (fun w=>counts_any b n hB hn hn2 w)
 have HM:Hid (8*n/b≤256∧cnt b (great b n)≤13):=hid ⟨by rcases hB with rfl | rfl | rfl | rfl<;> omega,cnt_le hB (great_le hB hn2)⟩
 clear hB hn hn2
 go_enter Tryz.func172,Tryz.ntmps172
 go_upto_region 1 with fail
 refine wp_over (fun W=>Hid (W.heap[w.heap.size]? =some (.cells #[.int .i64 (b:Int),.int .i64 (n:Int)] 139 (0,0)))∧Hid (Below w.heap.size w W)) ⟨heap_alloc_new _ _,(Below.refl _ _).alloc (Nat.le_refl _) _⟩ ?_
 rintro W ⟨HG,HB⟩
 have c0:W.cell? ⟨w.heap.size,0,none⟩=some (.int .i64 (b:Int)):=cr HG.o
 have c1:W.cell? ⟨w.heap.size,1,none⟩=some (.int .i64 (n:Int)):=cr HG.o
 go_upto_region 3 with (first
  | (with_reducible refine (valid_any (b:Int) (n:Int) _).mono ?_
     rintro e w2 ⟨rfl,h2⟩
     rw [HV.o]
     have H2:=hid (HB.o.trans (h2.mono HB.o.size))
     have HG2:=hid ((h2.block w.heap.size (gS HG.o).1).trans HG.o)
     clear h2))
 clear c0 c1
 have c0:w2.cell? ⟨w.heap.size,0,none⟩=some (.int .i64 (b:Int)):=cr HG2.o
 have c1:w2.cell? ⟨w.heap.size,1,none⟩=some (.int .i64 (n:Int)):=cr HG2.o
 go_upto_region 4 with (first
  | (with_reducible refine (HC.o _).mono ?_
     rintro e w3 ⟨m,c,rfl,hm,hc,h3⟩
     have HM1:=hid hm
     have HC1:=hid hc
     have hm2:m≤256:=by rw [hm];exact HM.o.1
     have hc2:c≤13:=by rw [hc];exact HM.o.2
     have H3:=hid (H2.o.trans (h3.mono H2.o.size))
     clear h3 hm hc))
 go_wp2_with fail
 go_ret
 exact ⟨m+c,by rfl,by rw [HM1.o,HC1.o];rfl,H3.o⟩
theorem str_idx (s:ByteArray) (i:Nat) (hi:i<s.size) (W:World):(Instr.index 9 (.string s) (.int .i64 (i:Int))).run Tryz.prog W= .ok (.int .u8 (((nb s).getD i 0:Nat):Int)) W:=by
 rw [run_index_string _ _ _ _ _ Tryz.underlying9,dif_pos ⟨by omega,by omega⟩]
 have h2:i<s.data.size:=hi
 have e:s.data[i]? =some s.data[i]:=Array.getElem?_eq_getElem h2
 simp [nb,lD,e]
 rfl
theorem and_last (x b:Nat) (hx:x<4611686018427387904) (hb:b≤8):bits .and .i64 (x:Int) ((last b:Nat):Int)=((x % 2 ^ b:Nat):Int):=by
 have h8:2 ^ b≤256:=Nat.pow_le_pow_right (n:=2) (by decide) hb
 have hp:=Nat.two_pow_pos b
 have o: ∀y:Nat,y<4611686018427387904→(BitVec.ofInt 64 (y:Int)).toNat=y:=fun y hy=>by rw [BitVec.toNat_ofInt];omega
 show IntKind.i64.wrap ((BitVec.ofInt 64 (x:Int) &&& BitVec.ofInt 64 ((last b:Nat):Int)).toNat:Int)=_
 rw [BitVec.toNat_and,o x hx,o (last b) (by unfold last;omega)]
 unfold last
 rw [Nat.and_two_pow_sub_one_eq_mod,IntKind.wrap_i64]
 have:=Nat.mod_lt x hp
 omega
theorem mainD_take (b:Nat) (bs:List Nat) (i:Nat) (h:i<bs.length):mainD b (bs.take (i+1))=mainD b (bs.take i)++dig b (8/b) (bs.getD i 0):=by
 rw [List.take_add_one,lE h,lD,lE h]
 unfold mainD
 rw [List.flatMap_append]
 simp
theorem csum_app (b:Nat) (l:List Nat) (d:Nat):csum b (l++[d])=csum b l+(last b - d):=csum_snoc b l d
theorem digits_ok (b:Nat) (s:ByteArray) (hB:Bits b) (hn:0<s.size) (hn2:s.size≤32) (w:World):
    Calls Tryz.prog 247 #[.agg #[.int .i64 (b:Int),.int .i64 (s.size:Int)],.string s] w fun e w'=> ∃x L,e= .returned (.tuple #[x,.int .i64 0])∧L=(One.digits b (nb s)).length∧w'.ownsRow w.heap.size 3 1 x L (natV (One.digits b (nb s)))∧Below w.heap.size w w':=by
 have HV:Hid (decide (VP (b:Int) (s.size:Int))=true):=hid (decide_eq_true ⟨by rcases hB with rfl | rfl | rfl | rfl<;> simp,by omega,by omega⟩)
 have HC:=hid (fun w=>counts_any b s.size hB hn hn2 w)
 have HLA:=hid (fun w=>last_any (b:Int) (s.size:Int) b rfl hB w)
 have HM:Hid (8*s.size/b≤256∧cnt b (great b s.size)≤13):=hid ⟨by rcases hB with rfl | rfl | rfl | rfl<;> omega,cnt_le hB (great_le hB hn2)⟩
 have hb8:b≤8:=by rcases hB with rfl | rfl | rfl | rfl<;> omega
 have hbz:0<b:=hB.pos
 have HB0:=hid hB
 have hL:last b≤255:=by rcases hB with rfl | rfl | rfl | rfl<;> decide
 have HAND:=hid (fun x hx=>and_last x b hx hb8)
 obtain ⟨L,hLL⟩:=ex_eq (last b)
 rw [hLL] at hL HLA HAND
 have HLL:=hid hLL
 clear hLL
 have HIX:=hid (str_idx s)
 obtain ⟨bs,hbs⟩:=ex_eq (nb s)
 have HBL:Hid (bs.length=s.size):=hid (by rw [← hbs];exact nb_length s)
 have HBT:Hid (∀x ∈ bs,x<256):=hid (by rw [← hbs];exact nb_lt s)
 rw [hbs] at HIX ⊢
 clear hbs hB
 obtain ⟨i0,hi,hz0,hz1,hz2⟩:=info_parts Tryz.info3
 have FI:=hid hi
 have FZ0:=hid hz0
 have FZ1:=hid hz1
 have FZ2:=hid hz2
 clear hi hz0 hz1 hz2
 go_enter Tryz.func247,Tryz.ntmps247
 go_upto_region 1 with fail
 refine wp_over (fun W=>Hid (W.heap[w.heap.size]? =some (.cells #[.int .i64 (b:Int),.int .i64 (s.size:Int)] 139 (0,0)))∧Hid (Below w.heap.size w W)) ⟨heap_alloc_new _ _,(Below.refl _ _).alloc (Nat.le_refl _) _⟩ ?_
 rintro W ⟨HG,HB⟩
 obtain ⟨N,hN⟩:=ex_eq w.heap.size
 rw [hN] at HG HB ⊢
 have HN:=hid hN
 clear hN
 have HWN:Hid (N+1≤W.heap.size):=hid (gS HG.o).1
 have HCE:Hid (∀V,Below (N+1) W V→V.cell? ⟨N,0,none⟩=some (.int .i64 (b:Int))∧V.cell? ⟨N,1,none⟩=some (.int .i64 (s.size:Int))):=hid (fun V h=>by
  have hg:=(h.block N (Nat.lt_succ_self N)).trans HG.o
  exact ⟨cr hg,cr hg⟩)
 obtain ⟨c0,c1⟩:=HCE.o W (Below.refl _ _)
 go_upto_region 3 with (first
  | (with_reducible refine (valid_any (b:Int) (s.size:Int) _).mono ?_
     rintro e w2 ⟨rfl,h2⟩
     rw [HV.o]
     have H2:=hid (h2.mono HWN.o)
     clear h2 c0 c1
     obtain ⟨c0,c1⟩:=HCE.o w2 H2.o))
 go_upto_region 4 with (first
  | (with_reducible refine (HC.o _).mono ?_
     rintro e w3 ⟨m,c,rfl,hm,hc,h3⟩
     have HM1:=hid hm
     have HC1:=hid hc
     have hm2:m≤256:=by rw [hm];exact HM.o.1
     have hc2:c≤13:=by rw [hc];exact HM.o.2
     have H3:=hid (H2.o.trans (h3.mono (by have:=H2.o.size;have:=HWN.o;omega)))
     clear h3 hm hc c0 c1))
 go_upto_region 7 with (first
  | (at_make
     refine wpList_make_own _ rfl (.const (.int .i64 0)) (.tmp 31) 81 rfl (N+1) 3 i0 (.int .i64 0) 1 Tryz.underlying81 FI.o FZ0.o FZ1.o .i64 .i64 ((m:Int)+(c:Int)) (m+c) (by rfl) (by rfl) (by omega) (by rw [FZ2.o];omega) (by unfold maxLen;omega) (by have:=H3.o.size;have:=HWN.o;omega) ?_
     intro w4 hown4 hgr4
     have HO4:Hid (w4.ownsRow (N+1) 3 1 (.slice (some ⟨w3.heap.size,0,none⟩) 0 (m+c)) 0 (natV [])):=hown4
     have H4:Hid (Below (N+1) W w4):=hid (H3.o.trans ((Chg.of_grown (M:=fun _ _=>False) hgr4 (fun q _ e=>by cases e)).below (by have:=H3.o.size;have:=HWN.o;omega) (fun _ _ _ h=>h)))
     clear hown4 hgr4))
 have hJ:(b:Int)*((8/b:Nat):Int)=8:=by rcases HB0.o with rfl | rfl | rfl | rfl<;> rfl
 obtain ⟨J,hJ8⟩:=ex_eq (8/b)
 rw [hJ8] at hJ
 have HJ8:=hid hJ8
 have HJ:=hid hJ
 clear hJ8 hJ
 have HCS:Hid (∀l:List Nat,csum b l≤l.length*255):=hid (fun l=>by
  have h:=csum_le b l
  have h2:last b≤255:=by rcases HB0.o with rfl | rfl | rfl | rfl<;> decide
  exact Nat.le_trans h (Nat.mul_le_mul_left _ h2))
 have HML:Hid (∀i,i≤s.size→(mainD b (bs.take i)).length≤256):=hid (fun i hi=>by
  rw [mainD_length HB0.o,List.length_take]
  have:=HM.o.1
  rcases HB0.o with rfl | rfl | rfl | rfl<;> omega)
 go_loopw [8,9,35] (fun x y z wr=> ∃(i:Nat) (cur:List Nat),i≤s.size∧z= .int .i64 (i:Int)∧Hid (cur=mainD b (bs.take i))∧(∃cs:Nat,y= .int .i64 (cs:Int)∧Hid (cs=csum b cur))∧Hid (wr.ownsRow (N+1) 3 1 x cur.length (natV cur))∧Hid (Below (N+1) W wr)) (fun _ _ z _=>s.size - (intOf z).toNat)
 case atStart=>exact ⟨0,[],by omega,rfl,rfl,⟨0,rfl,rfl⟩,HO4.o,H4.o⟩
 case round=>
  obtain ⟨i,cur,hi,rfl,HCU,⟨cs,rfl,HCSU⟩,HOW,HBE⟩:=hrel
  have HCL:Hid (cur.length≤256):=hid (by rw [HCU.o];exact HML.o i hi)
  have hcs:cs≤65280:=by rw [HCSU.o];have:=HCS.o cur;have:=HCL.o;omega
  rename World=>wa
  by_cases hlt:i<s.size
  ·obtain ⟨c0,c1⟩:=HCE.o wa HBE.o
   have hix:=HIX.o i hlt
   have HCLN:Hid (cur.length+J≤256):=hid (by
    have h:=HML.o (i+1) hlt
    rw [mainD_take b bs i (by rw [HBL.o];exact hlt),← HCU.o,List.length_append,dig_length,HJ8.o] at h
    exact h)
   have hX:bs.getD i 0<256:=by
    rw [lD,lE (by rw [HBL.o];exact hlt)];exact HBT.o _ (List.getElem_mem _)
   have HMT:Hid (mainD b (bs.take (i+1))=cur++dig b J (bs.getD i 0)):=hid (by rw [mainD_take b bs i (by rw [HBL.o];exact hlt),← HCU.o,HJ8.o])
   obtain ⟨X,hXX⟩:=ex_eq (bs.getD i 0)
   rw [hXX] at hix hX HMT
   clear hXX
   have hb8i:(b:Int)≤8:=by omega
   go_upto_region 10 with fail
   clear c0 c1
   go_loopw [8,9,11] (fun x y z wr=> ∃(j:Nat) (pre:List Nat) (zi:Int),z= .int .i64 zi∧j≤J∧Hid (zi=(b:Int)*(j:Int) - (b:Int))∧Hid (pre++dig b j X=dig b J X)∧(∃cs:Nat,y= .int .i64 (cs:Int)∧Hid (cs=csum b (cur++pre)))∧Hid (wr.ownsRow (N+1) 3 1 x (cur++pre).length (natV (cur++pre)))∧Hid (Below (N+1) W wr)) (fun _ _ z _=>(intOf z+8).toNat)
   case atStart=>exact ⟨J,[],8 - (b:Int),rfl,Nat.le_refl _,hid (by rw [HJ.o]),rfl,⟨cs,rfl,by rw [List.append_nil];exact HCSU.o⟩,by rw [List.append_nil];exact HOW.o,HBE.o⟩
   case round=>
    obtain ⟨j,pre,zi,rfl,hj,HZ,HPR,⟨cs2,rfl,HCS2⟩,HOW2,HBE2⟩:=hrel
    have HPL:Hid (pre.length+j=J):=hid (by have:=congrArg List.length HPR.o;rw [List.length_append,dig_length,dig_length] at this;exact this)
    have HCL2:Hid ((cur++pre).length≤256):=hid (by rw [List.length_append];have:=HPL.o;have:=HCLN.o;omega)
    have hcs2:cs2≤65280:=by rw [HCS2.o];have:=HCS.o (cur++pre);have:=HCL2.o;omega
    cases j with
    | zero=>
      have hz:zi= -(b:Int):=by have:=HZ.o;simp at this;exact this
      subst hz
      have hneg: ¬(0:Int)≤ -(b:Int):=by omega
      have HPR0:Hid (pre=dig b J X):=hid (by have h:=HPR.o;rw [dig,List.append_nil] at h;exact h)
      go_wp2_with fail
      go_roundw
      case rel=>
       refine ⟨i+1,cur++pre,by omega,by go_num,hid (by rw [HMT.o,HPR0.o]),⟨cs2,by go_num,HCS2.o⟩,HOW2.o,HBE2.o⟩
      case measure=>simp [intOf];omega
    | succ j=>
      obtain ⟨q,hq⟩: ∃q:Nat,b*j=q:=⟨_,rfl⟩
      have hz:zi=(q:Int):=by rw [HZ.o,← hq,Int.natCast_mul,Int.natCast_add,Int.mul_add];simp
      have hq8:q≤8:=by
       have h1:(b:Int)*(j:Int)≤(b:Int)*(J:Int):=Int.mul_le_mul_of_nonneg_left (by omega) (by omega)
       rw [HJ.o,← Int.natCast_mul,hq] at h1
       omega
      subst hz
      have HQ:=hid hq
      clear hq
      obtain ⟨c0,c1⟩:=HCE.o wr HBE2.o
      go_upto_region 12 with fail
      refine Kit.wp_region_heads (fun V=>V.cell? ⟨N,0,none⟩=some (.int .i64 (b:Int))∧V.cell? ⟨N,1,none⟩=some (.int .i64 (s.size:Int))) [0,1,2,3,4,5,6] [7,8,9] (by kernel_rfl) (by kernel_rfl) (by kernel_rfl) (by kernel_rfl) ⟨c0,c1⟩ ?_
      repeat (refine Kit.heads_cons (by rfl) (.inl ⟨by rfl,fun w' hS=>by (dsimp only at hS);go_simp;(try with_reducible rfl)⟩) ?_;simp only [Act.put,List.setIfInBounds_toArray,List.set_cons_zero,List.set_cons_succ])
      refine Kit.heads_nil ?_
      refine Kit.chain_cons (by rfl) rfl fun K hK=> ?_
      go_simp
      go_at_call 174
      refine (HLA.o _).mono ?_
      rintro e w5 ⟨rfl,h5⟩
      have HBE5:Hid (Below (N+1) W w5):=hid (HBE2.o.trans ((Below.refl _ wr).drew.trans (h5.mono (by have:=HBE2.o.size;have:=HWN.o;show N+1≤wr.heap.size;omega))))
      have HOW5:Hid (w5.ownsRow (N+1) 3 1 u8 (cur++pre).length (natV (cur++pre))):=hid (ownsRow_keep HOW2.o ((Chg.drew (Chg.refl (fun _ _=>False) _)).trans (Chg.of_below (M:=fun _ _=>False) h5)) (fun _ _ _ h=>h))
      clear h5 c0 c1
      obtain ⟨c0,c1⟩:=HCE.o w5 HBE5.o
      refine hK _ _ ⟨c0,c1⟩ ?_
      clear hK K
      have hand:bits .and .i64 (IntKind.i64.wrap (X:Int)/2 ^ q) (L:Int)=((X/2 ^ q % 2 ^ b:Nat):Int):=by
       have e1:IntKind.i64.wrap (X:Int)=(X:Int):=by rw [IntKind.wrap_i64];omega
       have e2:(X:Int)/2 ^ q=((X/2 ^ q:Nat):Int):=by rw [Int.natCast_ediv,Int.natCast_pow];rfl
       have e3:X/2 ^ q≤X:=Nat.div_le_self _ _
       rw [e1,e2]
       exact HAND.o _ (by omega)
      have HDD:Hid (dig b (j+1) X=(X/2 ^ q % 2 ^ b)::dig b j X):=hid (by rw [dig,HQ.o])
      have hD:X/2 ^ q % 2 ^ b≤L:=by have:=Nat.mod_lt (X/2 ^ q) (Nat.two_pow_pos b);rw [← HLL.o];unfold last;omega
      obtain ⟨D,hDe⟩:=ex_eq (X/2 ^ q % 2 ^ b)
      rw [hDe] at hand HDD hD
      clear hDe
      refine Kit.chain_cons (by rfl) rfl fun K hK=> ?_
      go_simp
      refine hK _ _ ⟨c0,c1⟩ ?_
      clear hK K
      refine Kit.chain_cons (by rfl) rfl fun K hK=> ?_
      go_simp
      refine hK _ _ ⟨c0,c1⟩ (Kit.chain_done ?_)
      clear hK K hand
      (try simp only [Act.put,List.setIfInBounds_toArray,List.set_cons_zero,List.set_cons_succ])
      go_upto_region 14 with (first
       | (at_builtin
          refine wpList_append_own _ rfl _ _ 81 rfl (N+1) 3 i0 (.int .i64 0) 1 8 Tryz.underlying81 FI.o FZ0.o FZ1.o FZ2.o rfl (by decide) _ _ _ rfl (HOW5.o.alloc _) ⟨w5.heap.size,0,none⟩ 1 1 [.int .i64 (D:Int)] rfl rfl (cell_one_new _ _ _) (by simp [Value.oneCell']) (by have:=HCL2.o;unfold maxLen;omega) (by have:=HCL2.o;omega) (by have:=HBE5.o.size;have:=HWN.o;simp;omega) ?_
          intro v6 w6 hown6 hgr6 _
          have HO6:Hid (w6.ownsRow (N+1) 3 1 v6 ((cur++pre).length+1) (natV (cur++pre++[D]))):=by rw [natV_app];exact hown6
          have HC6:Hid (Chg (fun q _=>N+1≤q) w5 w6):=(Chg.alloc1 w5 _).trans (Chg.of_grown hgr6 (fun q _ e=>(HOW5.o.lt q e).1))
          clear hown6 hgr6))
      have HB6:Hid (Below (N+1) W w6):=hid (HBE5.o.trans (HC6.o.below (by have:=HBE5.o.size;have:=HWN.o;omega) (fun q i hq h=>by omega)))
      clear c0 c1
      obtain ⟨c0,c1⟩:=HCE.o w6 HB6.o
      go_wp2_with (first
       | (with_reducible refine (HLA.o _).mono ?_
          rintro e w7 ⟨rfl,h7⟩
          have H7:=hid h7
          clear h7 c0 c1
          have HB7:Hid (Below (N+1) W w7):=hid (HB6.o.trans (H7.o.mono (by have:=HB6.o.size;have:=HWN.o;omega)))
          obtain ⟨c0,c1⟩:=HCE.o w7 HB7.o))
      go_roundw
      case rel=>
       refine ⟨j,pre++[D],(q:Int) - (b:Int),by go_num,by omega,hid (by rw [← HQ.o,Int.natCast_mul]),?_,⟨cs2+(L - D),by go_num,?_⟩,?_,HB7.o⟩
       ·have h:=HPR.o
        rw [HDD.o] at h
        show _=_
        rw [List.append_assoc];exact h
       ·show _=_
        rw [← List.append_assoc,csum_app,HCS2.o,HLL.o]
       ·have h:=ownsRow_keep HO6.o (Chg.of_below (M:=fun _ _=>False) H7.o) (fun _ _ _ h=>h)
        rw [← List.append_assoc,show (cur++pre++[D]).length=(cur++pre).length+1 by rw [List.length_append];rfl]
        exact h
      case measure=>simp [intOf];omega
  ·have hie:i=s.size:=by omega
   have HFU:Hid (cur=mainD b bs):=hid (by rw [HCU.o,hie,List.take_of_length_le (by rw [HBL.o];exact Nat.le_refl _)])
   have HQ12:Hid (∀j,j<c→b*j≤12):=hid (fun j hj=>by
    have h1:=(cnt_lt hbz (great_ne HB0.o hn) j).1 (by rw [← HC1.o];exact hj)
    have h2:=great_le HB0.o hn2
    refine Nat.le_of_not_lt fun h=> ?_
    have h3:2 ^ 13≤2 ^ (b*j):=Nat.pow_le_pow_right (by decide) h
    omega)
   clear hie
   go_upto_region 17 with fail
   go_loopw [8,13] (fun x y wr=> ∃(j:Nat) (pre:List Nat) (yi:Int),y= .int .i64 yi∧j≤c∧Hid (yi=(j:Int) - 1)∧Hid (pre++dig b j cs=dig b c cs)∧Hid (wr.ownsRow (N+1) 3 1 x (cur++pre).length (natV (cur++pre)))∧Hid (Below (N+1) W wr)) (fun _ y _=>(intOf y+1).toNat)
   case atStart=>exact ⟨c,[],(c:Int) - 1,rfl,Nat.le_refl _,rfl,rfl,by rw [List.append_nil];exact HOW.o,HBE.o⟩
   case round=>
    obtain ⟨j,pre,yi,rfl,hj,HY,HPR,HOW2,HBE2⟩:=hrel
    have HPL:Hid (pre.length+j=c):=hid (by have:=congrArg List.length HPR.o;rw [List.length_append,dig_length,dig_length] at this;exact this)
    have HCL2:Hid ((cur++pre).length≤270):=hid (by rw [List.length_append];have:=HPL.o;have:=HCL.o;omega)
    cases j with
    | zero=>
      have hy:yi= -1:=HY.o
      subst hy
      have HFIN:Hid (cur++pre=One.digits b bs):=hid (by
       have h:=HPR.o
       rw [dig,List.append_nil] at h
       rw [h,HFU.o,HCSU.o,HFU.o,HC1.o,← HBL.o];rfl)
      go_wp2_with fail
      go_ret2
      refine ⟨_,(One.digits b bs).length,rfl,rfl,?_,?_⟩
      ·rw [← HFIN.o,HN.o];exact ownsRow_base HOW2.o (Nat.le_succ N)
      ·rw [HN.o];exact HB.o.trans (HBE2.o.mono (Nat.le_succ N))
    | succ j=>
      have hy:yi=(j:Int):=by rw [HY.o];omega
      subst hy
      obtain ⟨q,hq⟩: ∃q:Nat,b*j=q:=⟨_,rfl⟩
      have hq12:q≤12:=by rw [← hq];exact HQ12.o j (by omega)
      have hqi:(j:Int)*(b:Int)=(q:Int):=by rw [← Int.natCast_mul,Nat.mul_comm,hq]
      have hwq:IntKind.i64.wrap (q:Int)=(q:Int):=by rw [IntKind.wrap_i64];omega
      have HQ:=hid hq
      clear hq
      obtain ⟨c0,c1⟩:=HCE.o wr HBE2.o
      go_upto_region 19 with fail
      refine Kit.wp_region_heads (fun V=>V.cell? ⟨N,0,none⟩=some (.int .i64 (b:Int))∧V.cell? ⟨N,1,none⟩=some (.int .i64 (s.size:Int))) [0,1,2,3,4,5,6,7] [8,9,10,11,12] (by kernel_rfl) (by kernel_rfl) (by kernel_rfl) (by kernel_rfl) ⟨c0,c1⟩ ?_
      repeat (refine Kit.heads_cons (by rfl) (.inl ⟨by rfl,fun w' hS=>by (dsimp only at hS);go_simp;(try with_reducible rfl)⟩) ?_;simp only [Act.put,List.setIfInBounds_toArray,List.set_cons_zero,List.set_cons_succ])
      refine Kit.heads_nil ?_
      refine Kit.chain_cons (by rfl) rfl fun K hK=> ?_
      go_simp
      go_at_call 174
      refine (HLA.o _).mono ?_
      rintro e w5 ⟨rfl,h5⟩
      have HBE5:Hid (Below (N+1) W w5):=hid (HBE2.o.trans ((Below.refl _ wr).drew.trans (h5.mono (by have:=HBE2.o.size;have:=HWN.o;show N+1≤wr.heap.size;omega))))
      have HOW5:Hid (w5.ownsRow (N+1) 3 1 u8 (cur++pre).length (natV (cur++pre))):=hid (ownsRow_keep HOW2.o ((Chg.drew (Chg.refl (fun _ _=>False) _)).trans (Chg.of_below (M:=fun _ _=>False) h5)) (fun _ _ _ h=>h))
      clear h5 c0 c1
      refine hK _ _ (HCE.o w5 HBE5.o) ?_
      clear hK K
      have hand:bits .and .i64 ((cs:Int)/2 ^ q) (L:Int)=((cs/2 ^ q % 2 ^ b:Nat):Int):=by
       have e2:(cs:Int)/2 ^ q=((cs/2 ^ q:Nat):Int):=by rw [Int.natCast_ediv,Int.natCast_pow];rfl
       have e3:cs/2 ^ q≤cs:=Nat.div_le_self _ _
       rw [e2]
       exact HAND.o _ (by omega)
      have HDD:Hid (dig b (j+1) cs=(cs/2 ^ q % 2 ^ b)::dig b j cs):=hid (by rw [dig,HQ.o])
      obtain ⟨D,hDe⟩:=ex_eq (cs/2 ^ q % 2 ^ b)
      rw [hDe] at hand HDD
      clear hDe
      refine Kit.chain_cons (by rfl) rfl fun K hK=> ?_
      go_simp
      refine hK _ _ (HCE.o w5 HBE5.o) ?_
      clear hK K hand
      refine Kit.chain_cons (by rfl) rfl fun K hK=> ?_
      go_simp
      have HBE6:Hid (Below (N+1) W (w5.alloc (.cells #[.int .i64 (D:Int)] 3))):=hid (HBE5.o.alloc (by have:=HBE5.o.size;have:=HWN.o;omega) _)
      refine hK _ _ (HCE.o _ HBE6.o) ?_
      clear hK K
      refine Kit.chain_cons (by rfl) rfl fun K hK=> ?_
      refine wp_append_src (.tmp 73) (.tmp 83) 81 (by rfl) (N+1) 3 i0 (.int .i64 0) 1 8 Tryz.underlying81 FI.o FZ0.o FZ1.o FZ2.o rfl (by decide) u8 (cur++pre).length (natV (cur++pre)) (by rfl) (HOW5.o.alloc _) (some ⟨w5.heap.size,0,none⟩) 1 1 [.int .i64 (D:Int)] (by rfl) (.inr ⟨rfl,_,rfl,cell_one_new _ _ _⟩) (by simp [Value.oneCell']) (by have:=HCL2.o;unfold maxLen;omega) (by have:=HCL2.o;omega) (by have:=HBE5.o.size;have:=HWN.o;simp;omega) ?_
      intro v6 w6 hown6 hgr6
      have HO6:Hid (w6.ownsRow (N+1) 3 1 v6 ((cur++pre).length+1) (natV (cur++pre++[D]))):=by rw [natV_app];exact hown6
      have HC6:Hid (Chg (fun q _=>N+1≤q) w5 w6):=(Chg.alloc1 w5 _).trans (Chg.of_grown hgr6 (fun q _ e=>(HOW5.o.lt q e).1))
      clear hown6 hgr6
      have HB6:Hid (Below (N+1) W w6):=hid (HBE5.o.trans (HC6.o.below (by have:=HBE5.o.size;have:=HWN.o;omega) (fun q i hq h=>by omega)))
      refine hK _ _ (HCE.o _ HB6.o) ?_
      clear hK K
      simp only [Act.put,List.setIfInBounds_toArray,List.set_cons_zero,List.set_cons_succ]
      refine Kit.chain_cons (by rfl) rfl fun K hK=> ?_
      go_simp
      refine hK _ _ (HCE.o _ HB6.o) (Kit.chain_done ?_)
      clear hK K
      (try simp only [Act.put,List.setIfInBounds_toArray,List.set_cons_zero,List.set_cons_succ])
      go_wp2_with fail
      go_roundw
      case rel=>
       refine ⟨j,pre++[D],(j:Int) - 1,by go_num,by omega,rfl,?_,?_,HB6.o⟩
       ·have h:=HPR.o
        rw [HDD.o] at h
        show _=_
        rw [List.append_assoc];exact h
       ·rw [← List.append_assoc,show (cur++pre++[D]).length=(cur++pre).length+1 by rw [List.length_append];rfl]
        exact HO6.o
      case measure=>simp [intOf]
theorem digits_bad (B S:Int) (s:ByteArray) (hV: ¬(VP B S∧(s.size:Int)=S)) (w:World):
    Calls Tryz.prog 247 #[.agg #[.int .i64 B,.int .i64 S],.string s] w fun e w'=>e= .returned (.tuple #[.slice none 0 0,.int .i64 1])∧Below w.heap.size w w':=by
 by_cases hP:VP B S
 ·have hne:((s.size:Int) != S)=true:=by rw [bne_iff_ne];exact fun e=>hV ⟨hP,e⟩
  have HV:Hid (decide (VP B S)=true):=hid (decide_eq_true hP)
  clear hV hP
  go_enter Tryz.func247,Tryz.ntmps247
  go_upto_region 1 with fail
  refine wp_over (fun W=>Hid (W.heap[w.heap.size]? =some (.cells #[.int .i64 B,.int .i64 S] 139 (0,0)))∧Hid (Below w.heap.size w W)) ⟨heap_alloc_new _ _,(Below.refl _ _).alloc (Nat.le_refl _) _⟩ ?_
  rintro W ⟨HG,HB⟩
  have c0:W.cell? ⟨w.heap.size,0,none⟩=some (.int .i64 B):=cr HG.o
  have c1:W.cell? ⟨w.heap.size,1,none⟩=some (.int .i64 S):=cr HG.o
  go_wp2_with (first
   | (with_reducible refine (valid_any B S _).mono ?_
      rintro e w2 ⟨rfl,h2⟩
      rw [HV.o]
      have H2:Hid (Below w.heap.size w w2):=hid (HB.o.trans (h2.mono HB.o.size))
      have d1:w2.cell? ⟨w.heap.size,1,none⟩=some (.int .i64 S):=(h2.cell (World.block_lt_of_cell? W _ c1)).trans c1
      clear h2 c0 c1))
  go_ret2
  exact ⟨rfl,H2.o⟩
 ·have HV:Hid (decide (VP B S)=false):=hid (decide_eq_false hP)
  clear hV hP
  go_enter Tryz.func247,Tryz.ntmps247
  go_wp2_with (first
   | (with_reducible refine (valid_any B S _).mono ?_
      rintro e w2 ⟨rfl,h2⟩
      rw [HV.o]
      have H2:Hid (Below w.heap.size w w2):=hid (((Below.refl _ w).alloc (Nat.le_refl _) _).trans (h2.mono (by simp)))
      clear h2))
  go_ret2
  exact ⟨rfl,H2.o⟩
theorem strCells_bvals (s:ByteArray):Go.Lib.strCells s=bvals (nb s):=by
 unfold Go.Lib.strCells bvals nb
 rw [List.map_map]
 rfl
theorem wpList_append_str {P:Program} {w:World} {ops:Array Oper} {rest:List Oper} {o:Oper} {a:Act} {Q:Exit→Act→World→Prop} (hgd:o.guard=none) (s x:Operand) (t u:TypeId)
    (ho:o.op= .call { callee:= .builtin .append,args:= #[s,x],argTypes:= #[t,u] })
    (base:Nat) (e:TypeId) (i:TypeInfo) (ht:P.underlying t=some (.slice e)) (hu:P.underlying u=some .string) (hi:P.info? e=some i) (hz:i.zero=some (.int .u8 0)) (hsize:i.size=1) (hby:i.bytes=1)
    (v:Value) (n:Nat) (xs:List Value) (hs:a.eval s=v) (hown:w.ownsRow base e 1 v n xs) (str:ByteArray) (hx:a.eval x= .string str)
    (h63:n+str.size≤maxLen) (hbytes:n+str.size≤140737488355328) (hbase:base≤w.heap.size)
    (h: ∀v' w',w'.ownsRow base e 1 v' (n+str.size) (xs++bvals (nb str))→w.grownBy w' v.ownBlock→wpList P ops Q rest (a.put o.dst v') w'):wpList P ops Q (o::rest) a w:=by
 refine wpList_plain hgd fun K hK=> ?_
 obtain ⟨v',w',hrun,h1,h2,_⟩:=Go.Lib.run_append_own_string (P:=P) w base t u o.type e i ht hu hi hz hsize hby v n xs hown str h63 hbytes hbase
 rw [strCells_bvals] at h1
 unfold Oper.wp
 simp [execOp,ho,resolve,invoke,builtin,hs,hx,hrun,Result.andThen]
 exact hK _ _ (h v' w' h1 h2)
theorem lit_bytes {w:World} {N:Nat} {bs:List Nat} {R:Array Value} {t:TypeId} {fr:Nat × Nat} (hg:w.heap[N]? =some (.cells R t fr)) (hR:(bvals bs).toArray=R) (hb: ∀x ∈ bs,x<256) (hl:bs.length≤maxLen):BytesAt w (some ⟨N,0,none⟩) bs:=by
 subst hR
 refine ⟨.inr ⟨N,0,rfl,fun i hi=> ?_⟩,hb,hl⟩
 rw [cell_of_row _ _ _ _ _ _ hg,Nat.zero_add,List.getElem?_toArray]
 simp [bvals,hi]
theorem conv_lit (w:World) (C:Array Value) (n c:Nat):(convert 52 52 (.slice (some ⟨w.heap.size,0,none⟩) n c)).run Tryz.prog (w.alloc (.cells C 5))= .ok (.slice (some ⟨w.heap.size,0,none⟩) n c) (w.alloc (.cells C 5 (C.size,C.size+1))):=
 Go.Lib.run_convert_bytes_const w 52 5 C n c Tryz.underlying52 Tryz.underlying5
theorem lit_alloc {w:World} {bs:List Nat} {R:Array Value} {fr:Nat × Nat} (hR:(bvals bs).toArray=R) (hb: ∀x ∈ bs,x<256) (hl:bs.length≤maxLen):BytesAt (w.alloc (.cells R 5 fr)) (some ⟨w.heap.size,0,none⟩) bs:=
 lit_bytes (heap_alloc_new _ _) hR hb hl
theorem secretIn_lt (i:Nat): ∀x ∈ secretIn i,x<256:=by
 intro x hx
 rcases List.mem_append.1 hx with h | h
 ·have h2: ∀y ∈ secretB,y<256:=by decide
  exact h2 x h
 ·exact num_lt _ _ h
theorem secretIn_len {i:Nat} (h:i≤999):(secretIn i).length≤8:=by
 unfold secretIn
 rw [List.length_append]
 have:=num_len (n:=i) (by omega)
 have:secretB.length=6:=rfl
 omega
theorem appUint_l (a:Option Addr) (cap:Nat) (xs:List Nat) (L:Nat) (hL:xs.length=L) (hnil:a=none→cap=0) (n:Nat) (hn:n<18446744073709551616) (hl:xs.length≤10000) (w:World) (hB:BytesAt w a xs) (DS:List Nat) (hDS:xs++num n=DS):
    Calls Tryz.prog 169 #[.slice a L cap,.int .u64 (n:Int)] w fun e w'=> ∃v' c,e= .returned v'∧c=DS.length∧w'.ownsRow w.heap.size 5 1 v' c (bvals DS)∧Below w.heap.size w w':=by
 subst hL hDS
 exact appUint_any a cap xs hnil n hn hl w hB
theorem tag_l (key:ByteArray) (hk:key.size≤64) (a:Option Addr) (cap:Nat) (xs:List Nat) (L:Nat) (hLe:xs.length=L) (hcap:xs.length≤cap) (hnil:a=none→cap=0) (hl:xs.length≤1000) (w:World) (hB:BytesAt w a xs) (hlt: ∀ad,a=some ad→0<xs.length→ad.block<w.heap.size) (hL:Laid w) (T:List Nat) (hT:tag (nb key) xs=T):
    Calls Tryz.prog 168 #[.string key,.slice a L cap] w fun e w'=> ∃u:ByteArray,e= .returned (.string u)∧nb u=T∧Below w.heap.size w w':=by
 subst hLe hT
 refine (tag_any key hk a cap xs hcap hnil hl w hB hlt hL).mono ?_
 rintro e w' ⟨bs,rfl,h1,h2⟩
 exact ⟨strB bs,rfl,by rw [h1];exact nb_strB (Sha.sum_lt _),h2⟩
theorem own_bytes {w:World} {base n:Nat} {v:Value} {bs:List Nat} (h:w.ownsRow base 5 1 v n (bvals bs)) (hb: ∀x ∈ bs,x<256) (hm:bs.length≤maxLen):
    ∃a cap,v= .slice a n cap∧bs.length=n∧bs.length≤cap∧BytesAt w a bs∧(a=none→cap=0)∧ ∀ad,a=some ad→base≤ad.block∧ad.block<w.heap.size:=by
 obtain ⟨hn,a,cap,rfl,h1,h2,h3,h4⟩:=bytes_of_own h hb hm
 exact ⟨a,cap,by rw [hn],hn.symm,h1,h3,h4,fun ad e=>by subst e;exact h.lt ad.block rfl⟩
theorem secret_ok (seed:ByteArray) (hs:seed.size=32) (c:Nat) (hc:c≤999) (w:World) (hL:Laid w):
    Calls Tryz.prog 241 #[.string seed,.int .i64 (c:Int)] w fun e w'=> ∃u:ByteArray,e= .returned (.tuple #[.string u,.int .i64 0])∧nb u=secret (nb seed) c∧Below w.heap.size w w':=by
 have HS:Hid (decide (seed.size=32)=true):=hid (decide_eq_true hs)
 have HC:Hid (decide (0≤(c:Int)∧(c:Int)≤999)=true):=hid (decide_eq_true (by omega))
 have HK:Hid (seed.size≤64):=hid (by omega)
 have HL:=hid hL
 have HDB:=hid (secretIn_lt c)
 have HDL:=hid (secretIn_len hc)
 have HDE:Hid (secretB++num c=secretIn c):=rfl
 have HTE:Hid (tag (nb seed) (secretIn c)=secret (nb seed) c):=rfl
 obtain ⟨T,hT⟩:=ex_eq (secret (nb seed) c)
 obtain ⟨DS,hDS⟩:=ex_eq (secretIn c)
 rw [hDS,hT] at HTE
 rw [hDS] at HDB HDL HDE
 rw [hT]
 clear hL hs hT hDS
 have hcl:=conv_lit w #[.int .u8 115,.int .u8 101,.int .u8 99,.int .u8 114,.int .u8 101,.int .u8 116] 6 6
 go_enter Tryz.func241,Tryz.ntmps241
 go_upto_region 3 with (first
  | (with_reducible refine (isSum_any seed _).mono ?_;rintro e w2 ⟨rfl,rfl⟩;rw [HS.o])
  | (with_reducible refine (validChain_any (c:Int) _).mono ?_;rintro e w2 ⟨rfl,rfl⟩;rw [HC.o]))
 have HLA:Hid (∀fr,BytesAt (w.alloc (.cells #[.int .u8 115,.int .u8 101,.int .u8 99,.int .u8 114,.int .u8 101,.int .u8 116] 5 fr)) (some ⟨w.heap.size,0,none⟩) secretB):=hid (fun fr=>lit_alloc rfl (by decide) (by decide))
 go_wp2_with (first
  | (with_reducible refine (appUint_l (some ⟨w.heap.size,0,none⟩) 6 secretB 6 rfl (fun e=>by cases e) c (by omega) (by decide) _ (HLA.o _) DS HDE.o).mono ?_
     rintro e w3 ⟨v3,n3,rfl,hn3,h3,h4⟩
     have H4:Hid (Below w.heap.size w w3):=hid (((Below.refl _ w).alloc (Nat.le_refl _) _).trans (h4.mono (by simp)))
     obtain ⟨a3,cp3,rfl,hl3,hc3,hB3,hnil3,hlt3⟩:=own_bytes h3 HDB.o (by have:=HDL.o;unfold maxLen;omega)
     have HL3:=hid hl3
     have HC3:=hid hc3
     have HB3:=hid hB3
     have HN3:=hid hnil3
     have HLT3:=hid hlt3
     clear hn3 h3 h4 hl3 hc3 hB3 hnil3 hlt3)
  | (with_reducible refine (tag_l seed HK.o a3 cp3 DS n3 HL3.o HC3.o HN3.o (by have:=HDL.o;omega) w3 HB3.o (fun ad e _=>(HLT3.o ad e).2) (HL.o.later H4.o (Nat.le_refl _)) T HTE.o).mono ?_
     rintro e w4 ⟨u,rfl,hu,h5⟩
     have HU:=hid hu
     have H5:=hid (H4.o.trans (h5.mono H4.o.size))
     clear hu h5))
 go_ret2
 exact ⟨u,rfl,HU.o,H5.o⟩
theorem sum_l (a:Option Addr) (cap:Nat) (xs:List Nat) (L:Nat) (hLe:xs.length=L) (hcap:xs.length≤cap) (hnil:a=none→cap=0) (hl:xs.length≤100000000000) (w:World) (hB:BytesAt w a xs) (hlt: ∀ad,a=some ad→0<xs.length→ad.block<w.heap.size) (hL:Laid w):
    Calls Tryz.prog 157 #[.slice a L cap] w fun e w'=> ∃u:ByteArray,e= .returned (.string u)∧nb u=Sha.sum xs∧Below w.heap.size w w':=by
 subst hLe
 refine (sum_any a cap xs hcap hnil hl w hB hlt hL.kon hL.init).mono ?_
 rintro e w' ⟨bs,rfl,h1,h2⟩
 exact ⟨strB bs,rfl,by rw [h1];exact nb_strB (Sha.sum_lt _),h2⟩
theorem nb_size {u:ByteArray} {xs:List Nat} (h:nb u=xs) (hl:xs.length=32):u.size=32:=by rw [← nb_length,h];exact hl
theorem input_eq (i k:Nat) (x:List Nat):(chainB++num i)++num k++x=input i k x:=by unfold input;simp only [List.append_assoc]
theorem chainIn_lt (i:Nat): ∀x ∈ chainB++num i,x<256:=by
 intro x hx
 rcases List.mem_append.1 hx with h | h
 ·have h2: ∀y ∈ chainB,y<256:=by decide
  exact h2 x h
 ·exact num_lt _ _ h
theorem app_lt {xs ys:List Nat} (hx: ∀x ∈ xs,x<256) (hy: ∀y ∈ ys,y<256): ∀x ∈ xs++ys,x<256:=fun x h=>(List.mem_append.1 h).elim (hx x) (hy x)
theorem chain_ok (i j m:Nat) (hi:i≤999) (hjm:j≤m) (hm:m≤255) (x:ByteArray) (hx:x.size=32) (w:World) (hL:Laid w):
    Calls Tryz.prog 243 #[.int .i64 (i:Int),.int .i64 (j:Int),.int .i64 (m:Int),.string x] w fun e w'=> ∃u:ByteArray,e= .returned (.tuple #[.string u,.int .i64 0])∧nb u=chain i j (m - j) (nb x)∧Below w.heap.size w w':=by
 have HS:Hid (decide (x.size=32)=true):=hid (decide_eq_true hx)
 have HC:Hid (decide (0≤(i:Int)∧(i:Int)≤999)=true):=hid (decide_eq_true (by omega))
 have HL:=hid hL
 have HX:=hid hx
 have HDB:=hid (chainIn_lt i)
 have HDL:Hid ((chainB++num i).length≤7):=hid (by rw [List.length_append];have:=num_len (n:=i) (by omega);have:chainB.length=5:=rfl;omega)
 have HDE:Hid (chainB++num i=chainB++num i):=rfl
 obtain ⟨DS,hDS⟩:=ex_eq (chainB++num i)
 rw [hDS] at HDB HDL
 have HDS:=hid hDS
 have HJM:=hid hjm
 clear hL hx hDS HDE
 obtain ⟨i0,hi0,hz0,hz1,hz2⟩:=info_parts Tryz.info5
 have FI:=hid hi0
 have FZ0:=hid hz0
 have FZ1:=hid hz1
 have FZ2:=hid hz2
 clear hi0 hz0 hz1 hz2
 have hcl:=conv_lit w #[.int .u8 99,.int .u8 104,.int .u8 97,.int .u8 105,.int .u8 110] 5 5
 have hjm2: ¬(m:Int)<(j:Int):=by omega
 have hm2: ¬(255:Int)<(m:Int):=by omega
 have hj0: ¬(j:Int)<0:=by omega
 go_enter Tryz.func243,Tryz.ntmps243
 go_upto_region 3 with (first
  | (with_reducible refine (isSum_any x _).mono ?_;rintro e w2 ⟨rfl,rfl⟩;rw [HS.o])
  | (with_reducible refine (validChain_any (i:Int) _).mono ?_;rintro e w2 ⟨rfl,rfl⟩;rw [HC.o]))
 have HLA:Hid (∀fr,BytesAt (w.alloc (.cells #[.int .u8 99,.int .u8 104,.int .u8 97,.int .u8 105,.int .u8 110] 5 fr)) (some ⟨w.heap.size,0,none⟩) chainB):=hid (fun fr=>lit_alloc rfl (by decide) (by decide))
 go_upto_region 4 with (first
  | (with_reducible refine (appUint_l (some ⟨w.heap.size,0,none⟩) 5 chainB 5 rfl (fun e=>by cases e) i (by omega) (by decide) _ (HLA.o _) DS HDS.o).mono ?_
     rintro e w3 ⟨v3,n3,rfl,hn3,h3,h4⟩
     have H4:Hid (Below w.heap.size w w3):=hid (((Below.refl _ w).alloc (Nat.le_refl _) _).trans (h4.mono (by simp)))
     obtain ⟨a3,cp3,rfl,hl3,hc3,hB3,hnil3,hlt3⟩:=own_bytes h3 HDB.o (by have:=HDL.o;unfold maxLen;omega)
     have HL3:=hid hl3
     have HC3:=hid hc3
     have HB3:=hid hB3
     have HN3:=hid hnil3
     clear hn3 h3 h4 hl3 hc3 hB3 hnil3 hlt3))
 clear hcl HLA
 go_wp2_with fail
 go_loopw [3,11] (fun sx sk wr=> ∃(k:Nat) (u:ByteArray),j≤k∧k≤m∧sk= .int .i64 (k:Int)∧sx= .string u∧Hid (nb u=chain i j (k - j) (nb x))∧Hid (u.size=32)∧Hid (Below w.heap.size w wr)∧Hid (Below w3.heap.size w3 wr)) (fun _ sk _=>m - (intOf sk).toNat)
 case atStart=>exact ⟨j,x,Nat.le_refl _,HJM.o,rfl,rfl,by show _=_;rw [Nat.sub_self];rfl,HX.o,H4.o,Below.refl _ _⟩
 case round=>
  obtain ⟨k,u,hjk,hkm,rfl,rfl,HU,HUS,HBE,HB3E⟩:=hrel
  by_cases hlt:k<m
  ·have hki:(k:Int)<(m:Int):=by omega
   obtain ⟨DS2,hDS2⟩:=ex_eq (DS++num k)
   have HD2:=hid hDS2
   have HDL2:Hid (DS2.length≤9):=hid (by rw [← hDS2,List.length_append];have:=HDL.o;have:=num_len (n:=k) (by omega);omega)
   have HDB2:Hid (∀y ∈ DS2,y<256):=hid (by rw [← hDS2];exact app_lt HDB.o (num_lt k))
   have HIN:Hid (DS2++nb u=input i k (nb u)):=hid (by rw [← hDS2,← HDS.o];exact input_eq i k (nb u))
   have HCH:Hid (chain i j (k+1 - j) (nb x)=Sha.sum (input i k (nb u))):=hid (by
    rw [show k+1 - j=(k - j)+1 by omega,chain_succ,show j+(k - j)=k by omega,HU.o])
   clear hDS2
   go_upto_region 6 with (first
    | (with_reducible refine (appUint_l a3 cp3 DS n3 HL3.o HN3.o k (by omega) (by have:=HDL.o;omega) _ (HB3.o.later HB3E.o) DS2 HD2.o).mono ?_
       rintro e w5 ⟨v5,n5,rfl,hn5,h5,h6⟩
       have HN5:Hid (n5≤9):=hid (by rw [hn5];exact HDL2.o)
       have HO5:=hid h5
       have H6:=hid h6
       clear hn5 h5 h6)
    | (at_builtin
       refine wpList_append_str rfl (.tmp 47) (.tmp 48) 52 9 rfl wr.heap.size 5 i0 Tryz.underlying52 Tryz.underlying9 FI.o FZ0.o FZ1.o FZ2.o _ _ _ (by rfl) HO5.o u (by rfl) (by have:=HN5.o;have:=HUS.o;unfold maxLen;omega) (by have:=HN5.o;have:=HUS.o;omega) H6.o.size ?_
       intro v6 w6 hown6 hgr6
       rw [← bvals_append,HIN.o] at hown6
       have HC6:Hid (Chg (fun q _=>wr.heap.size≤q) w5 w6):=hid (Chg.of_grown hgr6 (fun q _ e=>(HO5.o.lt q e).1))
       obtain ⟨a6,cp6,rfl,hl6,hc6,hB6,hnil6,hlt6⟩:=own_bytes hown6 (by rw [← HIN.o];exact app_lt HDB2.o (nb_lt u)) (by rw [← HIN.o,List.length_append,nb_length];have:=HDL2.o;have:=HUS.o;unfold maxLen;omega)
       have HL6:=hid hl6
       have HCP6:=hid hc6
       have HB6:=hid hB6
       have HN6:=hid hnil6
       have HLT6:=hid hlt6
       have HBE6:Hid (Below wr.heap.size wr w6):=hid (H6.o.trans (HC6.o.below H6.o.size (fun q i hq h=>by omega)))
       clear hl6 hc6 hB6 hnil6 hlt6 hown6 hgr6
       obtain ⟨n6,hn6⟩:=ex_eq (n5+u.size)
       rw [hn6] at HL6 ⊢
       clear hn6)
    | (with_reducible refine (sum_l a6 cp6 (input i k (nb u)) n6 HL6.o HCP6.o HN6.o (by rw [← HIN.o,List.length_append,nb_length];have:=HDL2.o;have:=HUS.o;omega) w6 HB6.o (fun ad e _=>(HLT6.o ad e).2) (HL.o.later (HBE.o.trans (HBE6.o.mono HBE.o.size)) (Nat.le_refl _))).mono ?_
       rintro e w7 ⟨u7,rfl,hu7,h7⟩
       have HU7:=hid hu7
       have HB7:Hid (Below wr.heap.size wr w7):=hid (HBE6.o.trans (h7.mono HBE6.o.size))
       clear hu7 h7))
   go_wp2_with fail
   go_roundw
   case rel=>exact ⟨k+1,u7,by omega,by omega,by go_num,rfl,by show _=_;rw [HU7.o,HCH.o],hid (nb_size HU7.o (Sha.sum_length _)),HBE.o.trans (HB7.o.mono HBE.o.size),HB3E.o.trans (HB7.o.mono HB3E.o.size)⟩
   case measure=>simp [intOf];omega
  ·have hke:k=m:=by omega
   have hki: ¬(k:Int)<(m:Int):=by omega
   have HKE:=hid hke
   clear hke
   go_wp2_with fail
   go_ret2
   exact ⟨u,rfl,by rw [HU.o,HKE.o],HBE.o⟩
end Go.Proofs.YtndlihclgdkpaaaGreatDoor
namespace Go.Proofs.YtndlihclgdkpaaaGreatDoor
open Go.Shelf
def lays156_ren:Go.Shelf.Ren:=⟨fun | 156=> 245 | 165=> 287 | 166=> 288 | 169=> 289 | 240=> 311 | 241=> 312 | 276=> 315 | 277=> 316 | n=>n,fun | 31=> 43 | 9=>9 | 3=>3 | 4=>4 | 0=>0 | 20=>20 | 72=> 351 | 76=> 354 | 70=> 349 | 37=> 52 | 75=> 353 | 127=> 370 | 164=> 373 | 5=>5 | 80=> 49 | n=>n,fun | n=>n⟩
theorem lays156:Go.Proofs.Lays.n156 Tryz.prog lays156_ren:={
 mixed:=by kernel_rfl
 f156:= Tryz.func245.trans (congrArg some (by kernel_rfl))
 f165:= Tryz.func287.trans (congrArg some (by kernel_rfl))
 f166:= Tryz.func288.trans (congrArg some (by kernel_rfl))
 f169:= Tryz.func289.trans (congrArg some (by kernel_rfl))
 f240:= Tryz.func311.trans (congrArg some (by kernel_rfl))
 f241:= Tryz.func312.trans (congrArg some (by kernel_rfl))
 f276:= Tryz.func315.trans (congrArg some (by kernel_rfl))
 f277:= Tryz.func316.trans (congrArg some (by kernel_rfl))
 t0:= Tryz.underlying0
 a0:= Tryz.isAgg0
 z0:= Tryz.sizeOf0
 v0:= Tryz.zeroValue0
 t3:= Tryz.underlying3
 a3:= Tryz.isAgg3
 z3:= Tryz.sizeOf3
 v3:= Tryz.zeroValue3
 t4:= Tryz.underlying4
 a4:= Tryz.isAgg4
 z4:= Tryz.sizeOf4
 v4:= Tryz.zeroValue4
 t9:= Tryz.underlying9
 a9:= Tryz.isAgg9
 z9:= Tryz.sizeOf9
 v9:= Tryz.zeroValue9
 t20:= Tryz.underlying20
 a20:= Tryz.isAgg20
 z20:= Tryz.sizeOf20
 v20:= Tryz.zeroValue20
 t31:= Tryz.underlying43
 a31:= Tryz.isAgg43
 z31:= Tryz.sizeOf43
 v31:= Tryz.zeroValue43
 t37:= Tryz.underlying52
 a37:= Tryz.isAgg52
 z37:= Tryz.sizeOf52
 v37:= Tryz.zeroValue52
 t70:= Tryz.underlying349
 a70:= Tryz.isAgg349
 z70:= Tryz.sizeOf349
 v70:= Tryz.zeroValue349
 t72:= Tryz.underlying351
 a72:= Tryz.isAgg351
 z72:= Tryz.sizeOf351
 v72:= Tryz.zeroValue351
 t75:= Tryz.underlying353
 a75:= Tryz.isAgg353
 z75:= Tryz.sizeOf353
 v75:= Tryz.zeroValue353
 t76:= Tryz.underlying354
 a76:= Tryz.isAgg354
 z76:= Tryz.sizeOf354
 v76:= Tryz.zeroValue354
 t127:= Tryz.underlying370
 a127:= Tryz.isAgg370
 z127:= Tryz.sizeOf370
 v127:= Tryz.zeroValue370
 t164:= Tryz.underlying373
 a164:= Tryz.isAgg373
 z164:= Tryz.sizeOf373
 v164:= Tryz.zeroValue373 }
theorem builderExtra:Builder.Extra Tryz.prog lays156_ren:={
 sizeBuilder:=by kernel_rfl
 liesBuilder:=by kernel_rfl
 t5:= Tryz.underlying5
 a5:= Tryz.isAgg5
 z5:= Tryz.sizeOf5
 v5:= Tryz.zeroValue5
 infoByte:=by kernel_rfl
 cellsByte:=by kernel_rfl
 sizeByte:=by kernel_rfl
 neB5:=by decide }
open Go.RowKit in
theorem strings_Join (bk o c:Nat) (xs:List ByteArray) (sep:ByteArray) (w:World) (hcells: ∀(j:Nat) x,xs[j]? =some x→w.cell? ⟨bk,o+j,none⟩=some (.string x)) (hbk:bk<w.heap.size) (hN:xs.length≤140737488355328) (hcap:xs.length≤c) (hlen:(Lib.join (xs.map (·.data.toList)) sep.data.toList).length≤140737488355328):
    Calls Tryz.prog 245 #[.slice (some ⟨bk,o,none⟩) xs.length c,.string sep] w fun e w'=>e= .returned (.string ⟨(Lib.join (xs.map (·.data.toList)) sep.data.toList).toArray⟩)∧Below w.heap.size w w':=Any.strings_Join lays156 builderExtra bk o c xs sep w hcells hbk hN hcap hlen
end Go.Proofs.YtndlihclgdkpaaaGreatDoor
namespace Go.Proofs.YtndlihclgdkpaaaGreatDoor
namespace Kit
section
variable {P:Program} {md:Region.Mode} {Q:Exit→Act→World→Prop} {S:World→Prop}
def plan (P:Program) (Q:Exit→Act→World→Prop) (S:World→Prop) (l:List Oper):List (Bool × Nat)→Act→World→Prop
 | [],a,w=>Q .normal a w
 | (true,i)::rest,a,w=> ∃o,l[i]? =some o∧ ∃v,YieldsIf P l.toArray S o v a∧plan P Q S l rest (a.put o.dst v) w
 | (false,i)::rest,a,w=> ∃o,l[i]? =some o∧o.guard=none∧ ∀K:Act→World→Prop,(∀a w,S w→plan P Q S l rest a w→K a w)→o.wp P a w K Q
def planOk (md:Region.Mode) (ops:Array Oper):List (Bool × Nat)→Array Bool→Bool
 | [],listed=>(Region.ready md ops listed).isEmpty
 | (true,i)::rest,listed=>Region.free md ops listed i && (Region.ready md ops listed).contains i && planOk md ops rest (listed.setIfInBounds i true)
 | (false,i)::rest,listed=>decide (Region.ready md ops listed=[i]) && planOk md ops rest (listed.setIfInBounds i true)
theorem any_of_plan {l:List Oper} (hsel:Region.noSelect l.toArray=true) (hQ: ∀c a d v w,Q (.panic c) (a.put d v) w→Q (.panic c) a w):
    ∀(ps:List (Bool × Nat)) (listed:Array Bool) (a:Act) (w:World),S w→planOk md l.toArray ps listed=true→plan P Q S l ps a w→wpAnyH P md l.toArray Q S ps.length listed a w
 | [],listed,a,w,_,hB,h=>by
   simp only [planOk,List.isEmpty_iff] at hB
   exact wpAnyH_done hB h 0
 | (true,i)::rest,listed,a,w,hS,hB,h=>by
   simp only [planOk,Bool.and_eq_true] at hB
   obtain ⟨o,ho,v,hy,hr⟩:=h
   exact wpAnyH_take (by simpa using ho) hsel hB.1.1 hB.1.2 (fun c a w=>hQ c a _ v w) hy hS (any_of_plan hsel hQ rest _ _ _ hS hB.2 hr)
 | (false,i)::rest,listed,a,w,hS,hB,h=>by
   simp only [planOk,Bool.and_eq_true,decide_eq_true_eq] at hB
   obtain ⟨o,ho,hg,hw⟩:=h
   refine wpAnyH_all hB.1 (by simp) ?_
   intro j hj
   have hji:j=i:=by simpa using hj
   subst hji
   have ho':l.toArray[j]? =some o:=by simpa using ho
   unfold wpOp
   rw [ho']
   show if Region.wanted o (yielded l.toArray a.tmps)=true then _ else _
   rw [if_pos (by simp [Region.wanted,hg])]
   exact .inl (hw _ fun a w hS hc=>⟨hS,any_of_plan hsel hQ rest _ a w hS hB.2 hc⟩)
theorem wp_region_plan {id:Nat} {a:Act} {w:World} {l:List Oper} (S:World→Prop) (ps:List (Bool × Nat)) (hm:P.follows .mixedOrders=true) (hsel:Region.noSelect l.toArray=true) (hn:l.length=ps.length)
    (hB:planOk .any l.toArray ps (Array.replicate l.length false)=true) (hS:S w.drew)
    (h:plan P (NoPanic Q) S l ps a w.drew):(Code.region id l.toArray true).wp P Q a w:=by
 refine wp_region_noPanic (wp_region_held (S:=S) hm ?_)
 have H:=any_of_plan hsel (fun _ _ _ _ _ h=>h) ps _ _ _ hS hB h
 rw [← hn] at H
 have e:l.toArray.size=l.length:=List.size_toArray
 rw [e]
 exact H
theorem plan_done {l:List Oper} {a:Act} {w:World} (h:Q .normal a w):plan P (NoPanic Q) S l [] a w:=h
theorem plan_head {l:List Oper} {a:Act} {w:World} {i:Nat} {rest:List (Bool × Nat)} {o:Oper} {v:Value} (ho:l[i]? =some o) (hy:YieldsIf P l.toArray S o v a) (h:plan P Q S l rest (a.put o.dst v) w):plan P Q S l ((true,i)::rest) a w:=⟨o,ho,v,hy,h⟩
theorem plan_op {l:List Oper} {a:Act} {w:World} {i:Nat} {rest:List (Bool × Nat)} {o:Oper} (ho:l[i]? =some o) (hg:o.guard=none) (h: ∀K:Act→World→Prop,(∀a w,S w→plan P Q S l rest a w→K a w)→o.wp P a w K Q):plan P Q S l ((false,i)::rest) a w:=⟨o,ho,hg,h⟩
end
end Kit
open Go.RowKit
open Kit (Chg)
open Go.Proofs.YtndlihclgdkpaaaGreatDoor.One

def strV (ss:List ByteArray):List Value:=ss.map Value.string
theorem strV_length (ss:List ByteArray):(strV ss).length=ss.length:=by simp [strV]
theorem strV_app (ss:List ByteArray) (s:ByteArray):strV (ss++[s])=strV ss++[.string s]:=by simp [strV]
theorem strV_get (ss:List ByteArray) (i:Nat) (h:i<ss.length):(strV ss)[i]? =some (.string (ss.getD i ByteArray.empty)):=by simp [strV,h]
theorem strV_one (ss:List ByteArray): ∀v ∈ strV ss,v.oneCell'=true:=by
 intro v hv
 simp only [strV,List.mem_map] at hv
 obtain ⟨x,_,rfl⟩:=hv
 rfl
theorem strs_of_own {w:World} {base n:Nat} {v:Value} {ss:List ByteArray} (h:w.ownsRow base 9 1 v n (strV ss)):
    ∃a cap,v= .slice a n cap∧ss.length=n∧ss.length≤cap∧StrsAt w a ss∧(a=none→cap=0)∧ ∀ad,a=some ad→base≤ad.block∧ad.block<w.heap.size:=by
 obtain ⟨hl,hv⟩:=h
 rw [strV_length,Nat.mul_one] at hl
 subst hl
 rcases hv with ⟨rfl,h0⟩ | ⟨g,cap,cur,rfl,hbg,hg,hnc,hcm,hcs,htake⟩
 ·exact ⟨none,0,by rw [h0],rfl,by omega,.inl (List.eq_nil_of_length_eq_zero h0),fun _=>rfl,(fun ad e=>by cases e)⟩
 ·refine ⟨some ⟨g,0,none⟩,cap,rfl,rfl,hnc,.inr ⟨g,0,rfl,fun i hi=> ?_⟩,(fun e=>by cases e),(fun ad e=>by cases e;exact ⟨hbg,(gS hg).1⟩)⟩
  rw [Nat.zero_add,cell_of_row _ _ _ _ _ _ hg]
  have h1:=strV_get ss i hi
  rw [← htake,Nat.mul_one,List.getElem?_take_of_lt hi] at h1
  simpa using h1
theorem strs_of_row {w:World} {g:Nat} {ss:List ByteArray} {t:TypeId} (h:w.heap[g]? =some (.cells (strV ss).toArray t (0,0))):StrsAt w (some ⟨g,0,none⟩) ss:=by
 refine .inr ⟨g,0,rfl,fun i hi=> ?_⟩
 rw [Nat.zero_add,cell_of_row _ _ _ _ _ _ h,List.getElem?_toArray]
 exact strV_get ss i hi
theorem join_nil_sep (xs:List (List UInt8)):Go.Lib.join xs []=xs.flatten:=by
 unfold Go.Lib.join
 match xs with
 | []=>rfl
 | x::r=>
   have h:=Go.Lib.join_cons x r []
   unfold Go.Lib.join at h
   rw [h]
   unfold Go.Lib.joinTail
   simp
theorem nb_join (vs:List ByteArray):nb ⟨((vs.map (·.data.toList)).flatten).toArray⟩=catB vs:=by
 unfold nb catB
 simp only [List.toList_toArray]
 induction vs with
 | nil=>rfl
 | cons v vs ih=>rw [List.map_cons,List.flatten_cons,List.map_append,ih,List.flatMap_cons];rfl
theorem join_l (a:Option Addr) (cap:Nat) (ss:List ByteArray) (L:Nat) (hLe:ss.length=L) (hl:(catB ss).length≤100000000000) (hn:ss.length≤1000000000) (w:World) (hS:StrsAt w a ss) (hL:Laid w) (T:List Nat) (hT:catB ss=T):
    Calls Tryz.prog 244 #[.slice a L cap] w fun e w'=> ∃u:ByteArray,e= .returned (.string u)∧nb u=Sha.sum T∧Below w.heap.size w w':=by
 subst hLe hT
 refine (join_any a cap ss hl hn w hS hL.kon hL.init).mono ?_
 rintro e w' ⟨bs,rfl,h1,h2⟩
 exact ⟨strB bs,rfl,by rw [h1];exact nb_strB (Sha.sum_lt _),h2⟩
theorem glue_l (bk o c:Nat) (vs:List ByteArray) (L:Nat) (hLe:vs.length=L) (h0:0<vs.length) (hN:vs.length≤1000000) (hcap:vs.length≤c) (hl:(catB vs).length≤100000000000) (w:World) (hS: ∀i,i<vs.length→w.cell? ⟨bk,o+i,none⟩=some (.string (vs.getD i ByteArray.empty))) (T:List Nat) (hT:catB vs=T):
    Calls Tryz.prog 245 #[.slice (some ⟨bk,o,none⟩) L c,.string { data:= #[] }] w fun e w'=> ∃u:ByteArray,e= .returned (.string u)∧nb u=T∧Below w.heap.size w w':=by
 subst hLe hT
 have hj:Go.Lib.join (vs.map (·.data.toList)) (ByteArray.mk #[]).data.toList=(vs.map (·.data.toList)).flatten:=join_nil_sep _
 refine (strings_Join bk o c vs { data:= #[] } w (fun j x hx=> ?_) (World.block_lt_of_cell? w _ (hS 0 h0)) (by omega) hcap ?_).mono ?_
 ·have hjl:=(List.getElem?_eq_some_iff.1 hx).1
  rw [hS j hjl,lD,hx];rfl
 ·rw [hj]
  have h1:=congrArg List.length (nb_join vs)
  rw [nb_length] at h1
  have h2:(ByteArray.mk ((vs.map (·.data.toList)).flatten).toArray).size=((vs.map (·.data.toList)).flatten).length:=by simp [ByteArray.size]
  omega
 ·rintro e w' ⟨rfl,h2⟩
  exact ⟨_,rfl,by rw [hj];exact nb_join vs,h2⟩
end Go.Proofs.YtndlihclgdkpaaaGreatDoor
namespace Go.Proofs.YtndlihclgdkpaaaGreatDoor
open Go.ChangeShapes Go.WideShapes Go.ChangeAt Go.RowKit

theorem own:ownKnob Tryz.prog.godebug=none:=by kernel_rfl
theorem laidOut:laidOutB Tryz.prog=true:=by kernel_rfl
abbrev laid1:List (String × DataW Unit):=[("kinkeep/sha256.initial",Rows.laid_kinkeep_sha256_initial),("kinkeep/sha256.constants",Rows.laid_kinkeep_sha256_constants),("kinkeep/hmac.pads",Rows.laid_kinkeep_hmac_pads)]
theorem gIni: Tryz.prog.globalNamed "kinkeep/sha256.initial" =some 0 :=by kernel_rfl
theorem tIni:(Tryz.prog.globals[0]?).map (·.type)=some 305 :=by kernel_rfl
theorem gKon: Tryz.prog.globalNamed "kinkeep/sha256.constants" =some 2 :=by kernel_rfl
theorem tKon:(Tryz.prog.globals[2]?).map (·.type)=some 356 :=by kernel_rfl
theorem gPad: Tryz.prog.globalNamed "kinkeep/hmac.pads" =some 1 :=by kernel_rfl
theorem tPad:(Tryz.prog.globals[1]?).map (·.type)=some 344 :=by kernel_rfl
theorem cells32: Tryz.prog.cellsOf 304 =1:=by kernel_rfl
theorem cells8: Tryz.prog.cellsOf 305 =8:=by kernel_rfl
theorem cells64: Tryz.prog.cellsOf 356 =64:=by kernel_rfl
theorem cells2: Tryz.prog.cellsOf 344 =2:=by kernel_rfl
theorem cellsU8: Tryz.prog.cellsOf 5=1:=by kernel_rfl
theorem cellsInt: Tryz.prog.cellsOf 3=1:=by kernel_rfl
theorem cellsStr: Tryz.prog.cellsOf 9=1:=by kernel_rfl
theorem cellsPar: Tryz.prog.cellsOf 261 =2:=by kernel_rfl
theorem door_met (os:Os) (args:Array Value):laidMetH Tryz.prog laid1 ((World.doorLaid Tryz.prog 24 os).forCall (fun _ _=>0) ⟨#[],args,[]⟩).memory:=
 laidMetH_of_parts3 (fuel:=8) (laidMet_of_run' 8 (by kernel_rfl) (by kernel_rfl)) (by kernel_rfl) (by kernel_rfl)

theorem laid_tail {P:Program} {w:World} {n:String} {d:DataW Unit} {r:List (String × DataW Unit)} (h:laidMet P ((n,d)::r) w):laidMet P r w:=by
 obtain ⟨ps,⟨g,t,cs,fuel,p,q,_,_,_,_,hr,rfl⟩,hnd,hc⟩:=h
 exact ⟨q,hr,(List.nodup_append.1 hnd).2.1,fun b off hm=>hc b off (List.mem_append_right _ hm)⟩
theorem of_laid {W:World} (h:laidMetH Tryz.prog laid1 W):Laid W:=by
 rw [MakeChecks.laidMetH_plain _ _ _ (by kernel_rfl)] at h
 have h1:laidMet Tryz.prog (("kinkeep/sha256.initial",Lib.tabData .u32 (Sha.initL.map Int.ofNat))::("kinkeep/sha256.constants",Lib.tabData .u32 (Sha.kList.map Int.ofNat))::("kinkeep/hmac.pads",Lib.tabData .u8 [54,92])::[]) W:=h
 have h2:=laid_tail h1
 have h3:=laid_tail h2
 have t1:=Lib.tabIs_of_head gIni tIni Tryz.underlying305 Tryz.underlying304 cells32 cells8 h1
 have t2:=Lib.tabIs_of_head gKon tKon Tryz.underlying356 Tryz.underlying304 cells32 cells64 h2
 have t3:=Lib.tabIs_of_head gPad tPad Tryz.underlying344 Tryz.underlying5 cellsU8 cells2 h3
 refine ⟨fun t ht=> ?_,fun i hi=> ?_,t3.cell gPad 0 (by decide),t3.cell gPad 1 (by decide)⟩
 ·have:=t2.cell gKon t (by rw [List.length_map,Sha.kList_length];exact ht)
  rw [this]
  have hk:=Sha.kList_lt t ht
  unfold Sha.kon
  rw [Sha.ofNat_v _ hk,lD,lD,List.getElem?_map,lE (by rw [Sha.kList_length];exact ht)]
  rfl
 ·have:=t1.cell gIni i (by rw [List.length_map];exact hi)
  rw [Nat.zero_add,this]
  match i,hi with
  | 0,_=>rfl
  | 1,_=>rfl
  | 2,_=>rfl
  | 3,_=>rfl
  | 4,_=>rfl
  | 5,_=>rfl
  | 6,_=>rfl
  | 7,_=>rfl

theorem array2 {α:Type} {cs:Array α} (h:cs.size=2): ∃c0 c1,cs= #[c0,c1]:=by
 obtain ⟨l⟩:=cs
 match l,h with
 | [c0,c1],_=>exact ⟨c0,c1,rfl⟩
theorem Tryz.fieldsPar:(match Tryz.prog.underlying 261 with | some (.struct fields)=>fields.toList.map (fun f=>(f.type,f.offset)) | _=>[])=[(3,0),(3,1)]:=by kernel_rfl
theorem open_params {H:Type} {enc:TypeId × Value→H} {W:World} {base:Nat} {spare:Nat→Bool} {held:Bool} {r:Reach} {b0:Nat} {v:Value} {d:DataW H} {p:List MemPlace} (hv:Value.okWide Tryz.prog W r b0 261 v) (h:DataW.Trod enc Tryz.prog W base spare held 261 v d p):
    ∃(B S:Int),v= .agg #[.int .i64 B,.int .i64 S]:=by
 have hF:= Tryz.fieldsPar
 cases hu: Tryz.prog.underlying 261 with
 | none=>rw [hu] at hF;simp at hF
 | some td=>
   rw [hu] at hF
   cases td with
   | struct fields=>
     obtain ⟨cs,rfl,hsz⟩:=okWide_struct hu hv
     obtain ⟨c0,c1,rfl⟩:=array2 (hsz.trans cellsPar)
     obtain ⟨fuel,hf⟩:=h
     obtain ⟨xs,n,_,_,hl,hlen,hf⟩:=DataW.trod_struct hu hf
     obtain ⟨fl⟩:=fields
     match fl,hF with
     | [f0,f1],hF=>
       simp only [List.map_cons,List.map_nil,List.cons.injEq,Prod.mk.injEq,and_true] at hF
       obtain ⟨⟨t0,o0⟩,⟨t1,o1⟩⟩:=hF
       match xs,hlen with
       | [y0,y1],_=>
         have h0:=hf 0 f0 rfl
         have h1:=hf 1 f1 rfl
         rw [t0,o0,cellsInt] at h0
         rw [t1,o1,cellsInt] at h1
         obtain ⟨n0,e0,_,w0⟩:=DataW.trod_int Tryz.underlying3 h0
         obtain ⟨n1,e1,_,w1⟩:=DataW.trod_int Tryz.underlying3 h1
         simp [Value.cells] at e0 e1
         exact ⟨n0,n1,by rw [e0,e1]⟩
   | _=>simp at hF
theorem open_strs {H:Type} {enc:TypeId × Value→H} {W:World} {a:Option Addr} {len cap fuel:Nat} {x:DataW H × List MemPlace}
    (hf:DataW.trod enc Tryz.prog W 0 (fun _=>true) true fuel 43 [.slice a len cap]=some x):
    ∃ss:List ByteArray,ss.length=len∧len≤9223372036854775807∧StrsAt W a ss:=by
 rcases open_strings Tryz.underlying43 Tryz.underlying9 cellsStr hf with ⟨hcs,_⟩ | ⟨ad,l,c,zs,hcs,_,hl,hm,hz,hx,hcell,hwz⟩
 ·simp at hcs
  obtain ⟨rfl,rfl,rfl⟩:=hcs
  exact ⟨[],rfl,by omega,.inl rfl⟩
 ·simp at hcs
  obtain ⟨rfl,rfl,rfl⟩:=hcs
  simp only [if_true] at hz
  have hlen:(zs.take len).length=len:=by rw [List.length_take];omega
  have hmx:len≤9223372036854775807:=Nat.le_trans hl hm
  refine ⟨zs.take len,hlen,hmx,?_⟩
  by_cases h0:len=0
  ·left
   exact List.eq_nil_of_length_eq_zero (by rw [hlen];exact h0)
  ·right
   obtain ⟨b,off,spot⟩:=ad
   have hspot:spot=none:=by simpa [Addr.add] using World.cell?_spot (hcell 0 (by omega))
   subst hspot
   refine ⟨b,off,rfl,fun i hi=> ?_⟩
   rw [hlen] at hi
   have hc:=hcell i (by omega)
   rw [add_none] at hc
   rw [hc,lD,lD,List.getElem?_take_of_lt hi]
end Go.Proofs.YtndlihclgdkpaaaGreatDoor
