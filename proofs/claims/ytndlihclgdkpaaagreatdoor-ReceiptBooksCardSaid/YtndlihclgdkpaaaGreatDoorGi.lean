/- Texts Sud, Vcw, Ops, Ope, Qpl, Qmk, Qwr, merged. -/
import Derived.Maps.AppendAt
import Derived.Test.YtndlihclgdkpaaaGreatDoorGb
import Derived.Test.YtndlihclgdkpaaaGreatDoorGc
import Derived.Test.YtndlihclgdkpaaaGreatDoorGd
import Derived.Test.YtndlihclgdkpaaaGreatDoorGe
import Derived.Test.YtndlihclgdkpaaaGreatDoorGf
import Derived.Test.YtndlihclgdkpaaaGreatDoorGg
import Derived.Test.YtndlihclgdkpaaaGreatDoorGh
/- The helper summed: the strings whose sums are computed. -/
set_option linter.unusedVariables false
set_option linter.unusedSimpArgs false
open Go.Lib (hid)
set_option maxHeartbeats 1000000
set_option maxRecDepth 100000
namespace Go.Proofs.YtndlihclgdkpaaaGreatDoor
open Go.RowKit
open Kit (Chg)
open Sha (v)
open Go.Proofs.YtndlihclgdkpaaaGreatDoor.One
theorem conv_new (W:World) (bs:List Nat) (hb: ∀x ∈ bs,x<256) (n:Nat) (hn:bs.length=n) (hl:n≤100) (R:Array Value) (hR:(bvals bs).toArray=R) (cb:ByteArray) (hc:strB bs=cb):
    (convert 52 9 (.slice (some ⟨W.heap.size,0,none⟩) n n)).run Tryz.prog (W.alloc (.cells R 5))= .ok (.string cb) (W.alloc (.cells R 5)):=
 conv_l (row_bytes0 (t:=5) (heap_alloc_new W _) hR hb (by rw [hn];unfold maxLen;omega)) hn n hc
theorem strB_one {x:Nat} (h:x<256):nb (strB [x])=[x]∧(strB [x]).size=1:=by
 have hb: ∀y ∈ [x],y<256:=fun y hy=>by have:=List.mem_singleton.1 hy;omega
 exact ⟨nb_strB hb,by rw [strB_size _ hb];rfl⟩
section
variable {ops:Array Oper} {rest:List Oper} {o:Oper} {a:Act} {Q:Exit→Act→World→Prop}
end
theorem two_rows1 {w:World} {r1 r2:Array Value} {T1 T2:TypeId}:((w.alloc (.cells r1 T1)).alloc (.cells r2 T2)).heap[w.heap.size]? =some (.cells r1 T1 (0,0)):=(Below.heap_alloc _ _ _ (by simp)).trans (heap_alloc_new _ _)
theorem two_rows2 {w:World} {r1 r2:Array Value} {T1 T2:TypeId}:((w.alloc (.cells r1 T1)).alloc (.cells r2 T2)).heap[w.heap.size+1]? =some (.cells r2 T2 (0,0)):=by
 have:=heap_alloc_new (w.alloc (.cells r1 T1)) (.cells r2 T2)
 rwa [World.size_alloc] at this
theorem two_below {w:World} {o1 o2:Obj}:Below w.heap.size w ((w.alloc o1).alloc o2):=((Below.refl _ _).alloc (Nat.le_refl _) _).alloc (by simp) _
theorem two_size {w:World} {o1 o2:Obj}:((w.alloc o1).alloc o2).heap.size=w.heap.size+2:=by simp
end Go.Proofs.YtndlihclgdkpaaaGreatDoor
namespace Go.Proofs.YtndlihclgdkpaaaGreatDoor
open Go.ChangeShapes Go.WideShapes Go.ChangeAt Go.RowKit
theorem cellsStrs: Tryz.prog.cellsOf 43 =1:=by kernel_rfl
def StructsAt (w:World) (a:Option Addr) (k:Nat) (rs:List (List Value)):Prop:=rs=[]∨ ∃b o,a=some ⟨b,o,none⟩∧ ∀i j,i<rs.length→j<k→w.cell? ⟨b,o+i*k+j,none⟩=(rs.getD i [])[j]?
theorem open_rows {H:Type} {enc:TypeId × Value→H} {P:Program} {W:World} {t e:TypeId} {k:Nat} (ht:P.underlying t=some (.slice e)) (hc:P.cellsOf e=k) (hk:0<k) {α:Type} (R:List Value→α→Prop)
    (hR: ∀n cs x,DataW.trod enc P W 0 (fun _=>true) true n e cs=some x→ ∃y,R cs y) {a:Option Addr} {len cap fuel:Nat} {x:DataW H × List MemPlace}
    (hf:DataW.trod enc P W 0 (fun _=>true) true fuel t [.slice a len cap]=some x):
    ∃(ys:List α) (rs:List (List Value)),ys.length=len∧rs.length=len∧len≤9223372036854775807∧(∀r ∈ rs,r.length=k)∧StructsAt W a k rs∧ ∀i (h:i<ys.length),R (rs.getD i []) ys[i]:=by
 rcases DataW.trod_slice ht hf with ⟨hcs,_⟩ | ⟨ad,l,c,elems,rest,n,_,hcs,_,_,hl,hm,hlen,hel,_,_⟩
 ·simp at hcs
  obtain ⟨rfl,rfl,rfl⟩:=hcs
  exact ⟨[],[],rfl,rfl,by omega,by simp,.inl rfl,fun i h=>absurd h (by simp)⟩
 ·simp at hcs
  obtain ⟨rfl,rfl,rfl⟩:=hcs
  have each: ∀i:Fin len,∃p:List Value × α,W.cells? 0 (ad.add (i.1*k)) k=some p.1∧R p.1 p.2:=by
   intro i
   have h1:=hel i.1 i.2
   rw [lE (by rw [hlen];exact i.2),hc,Option.bind_eq_some_iff] at h1
   obtain ⟨cs,h2,h3⟩:=h1
   obtain ⟨y,h4⟩:=hR _ _ _ h3
   exact ⟨(cs,y),h2,h4⟩
  obtain ⟨f,hf2⟩:=Classical.axiomOfChoice each
  have hrs: ∀i (h:i<len),(List.ofFn fun j=>(f j).1).getD i []=(f ⟨i,h⟩).1:=fun i h=>by
   rw [lD,lE (by simpa using h),List.getElem_ofFn]
   rfl
  refine ⟨List.ofFn fun j=>(f j).2,List.ofFn fun j=>(f j).1,by simp,by simp,Nat.le_trans hl hm,?_,?_,?_⟩
  ·intro r hr
   rw [List.mem_ofFn] at hr
   obtain ⟨j,rfl⟩:=hr
   exact (World.cells?_some (hf2 j).1).2.1
  ·by_cases h0:len=0
   ·subst h0
    exact .inl (by simp)
   ·right
    obtain ⟨b,off,spot⟩:=ad
    have hspot:spot=none:=by
     have h1:=(World.cells?_some (hf2 ⟨0,by omega⟩).1)
     have h2:=h1.2.2 0 hk
     rw [lE (by omega)] at h2
     simpa [Addr.add] using World.cell?_spot h2
    subst hspot
    refine ⟨b,off,rfl,fun i j hi hj=> ?_⟩
    have hi':i<len:=by simpa using hi
    rw [hrs i hi']
    have h2:=(World.cells?_some (hf2 ⟨i,hi'⟩).1).2.2 j hj
    rw [← h2,add_none,add_none]
  ·intro i h
   have hi:i<len:=by simpa using h
   rw [hrs i hi,List.getElem_ofFn]
   exact (hf2 ⟨i,hi⟩).2
end Go.Proofs.YtndlihclgdkpaaaGreatDoor
namespace Go.Proofs.YtndlihclgdkpaaaGreatDoor
open Go.Proofs.YtndlihclgdkpaaaGreatDoor.One

structure Rc where
 hol:Int
 vlt:Int
 str:ByteArray
 ix:Int
 sz:Int
 day:Int
 ser:Int
 cnt:Int
 pl:Int
 root:ByteArray
 path:List ByteArray
 si:Int
 parts:List ByteArray
 sp:List ByteArray
structure Sg where
 hol:Int
 vlt:Int
 sz:Int
 day:Int
 ser:Int
 str:ByteArray
 ix:Int
deriving DecidableEq
def Rc.sg (r:Rc):Sg:=⟨r.hol,r.vlt,r.sz,r.day,r.ser,r.str,r.ix⟩
theorem Rc.ext' {a b:Rc} (h:a.sg=b.sg) (h1:a.cnt=b.cnt) (h2:a.pl=b.pl) (h3:a.root=b.root) (h4:a.path=b.path) (h5:a.si=b.si) (h6:a.parts=b.parts) (h7:a.sp=b.sp):a=b:=by
 cases a;cases b
 simp only [Rc.sg,Sg.mk.injEq] at h
 simp_all
def goodP (vlt:Int) (str:ByteArray) (ix sz:Int):Bool:=inB vlt 0 11 && (decide (str.size=32) && (inB ix 0 15 && inB sz 1 65536))
def all32 (l:List ByteArray):Bool:=l.all fun s=>decide (s.size=32)
def sumsB (l:List ByteArray) (m:Nat):Bool:=decide (l.length≤m) && all32 l
def validR (r:Rc):Bool:=inB r.hol 0 11 && (goodP r.vlt r.str r.ix r.sz && (inB r.day 0 999999 && (inB r.ser 0 1099511627776 && (inB r.cnt 1 256 && (inB r.pl 0 (r.cnt - 1) && (decide (r.root.size=32) && (sumsB r.path 8 && (sumsB r.sp 8 && (sumsB r.parts 300 && inB r.si 0 255)))))))))
theorem inB_iff {x lo hi:Int}:inB x lo hi=true↔lo≤x∧x≤hi:=by
 unfold inB
 simp only [Bool.and_eq_true,decide_eq_true_eq]
theorem all32_iff {l:List ByteArray}:all32 l=true↔ ∀s ∈ l,s.size=32:=by
 unfold all32
 simp only [List.all_eq_true,decide_eq_true_eq]
theorem sumsB_iff {l:List ByteArray} {m:Nat}:sumsB l m=true↔l.length≤m∧ ∀s ∈ l,s.size=32:=by
 unfold sumsB
 rw [Bool.and_eq_true,decide_eq_true_eq,all32_iff]
structure GoodP (vlt:Int) (str:ByteArray) (ix sz:Int):Prop where
 v0:0≤vlt
 v1:vlt≤11
 st:str.size=32
 i0:0≤ix
 i1:ix≤15
 s0:1≤sz
 s1:sz≤65536
theorem goodP_iff {vlt:Int} {str:ByteArray} {ix sz:Int}:goodP vlt str ix sz=true↔GoodP vlt str ix sz:=by
 unfold goodP
 simp only [Bool.and_eq_true,decide_eq_true_eq,inB_iff]
 constructor
 ·rintro ⟨⟨a,b⟩,c,⟨d,e⟩,f,g⟩
  exact ⟨a,b,c,d,e,f,g⟩
 ·rintro ⟨a,b,c,d,e,f,g⟩
  exact ⟨⟨a,b⟩,c,⟨d,e⟩,f,g⟩
structure ValidR (r:Rc):Prop where
 h0:0≤r.hol
 h1:r.hol≤11
 gd:GoodP r.vlt r.str r.ix r.sz
 d0:0≤r.day
 d1:r.day≤999999
 s0:0≤r.ser
 s1:r.ser≤1099511627776
 c0:1≤r.cnt
 c1:r.cnt≤256
 p0:0≤r.pl
 p1:r.pl≤r.cnt - 1
 rt:r.root.size=32
 pn:r.path.length≤8
 ps: ∀s ∈ r.path,s.size=32
 qn:r.sp.length≤8
 qs: ∀s ∈ r.sp,s.size=32
 an:r.parts.length≤300
 am: ∀s ∈ r.parts,s.size=32
 x0:0≤r.si
 x1:r.si≤255
theorem validR_iff {r:Rc}:validR r=true↔ValidR r:=by
 unfold validR
 simp only [Bool.and_eq_true,decide_eq_true_eq,inB_iff,goodP_iff,sumsB_iff]
 constructor
 ·rintro ⟨⟨a,b⟩,c,⟨d,e⟩,⟨f,g⟩,⟨h,i⟩,⟨j,k⟩,l,⟨m,n⟩,⟨o,p⟩,⟨q,r⟩,s,t⟩
  exact ⟨a,b,c,d,e,f,g,h,i,j,k,l,m,n,o,p,q,r,s,t⟩
 ·rintro ⟨a,b,c,d,e,f,g,h,i,j,k,l,m,n,o,p,q,r,s,t⟩
  exact ⟨⟨a,b⟩,c,⟨d,e⟩,⟨f,g⟩,⟨h,i⟩,⟨j,k⟩,l,⟨m,n⟩,⟨o,p⟩,⟨q,r⟩,s,t⟩
def encS (r:Rc):List Nat:=num r.hol.toNat++num r.vlt.toNat++nb r.str++headN [r.ix.toNat,r.sz.toNat,r.day.toNat,r.ser.toNat]
where headN (q:List Nat):List Nat:=q.flatMap num
def leafR (r:Rc):List Nat:=Mrk.leaf (encS r)
def wordR:List Nat:=[114,101,99,101,105,112,116,115]
def encB (root:List Nat) (n:Nat):List Nat:=num 8++wordR++root++num n
def batchR (root:List Nat) (n:Nat):List Nat:=Sha.sum (encB root n)
theorem batchR_len (root:List Nat) (n:Nat):(batchR root n).length=32:=Sha.sum_length _
def befR (a b:Rc):Bool:=if a.day≠b.day then decide (a.day<b.day) else if a.hol≠b.hol then decide (a.hol<b.hol) else decide (a.ser<b.ser)
def contraR (a b:Rc):Bool:=validR a && (validR b && (decide (a.hol=b.hol) && (decide (a.ser=b.ser) && !decide (a.sg=b.sg))))
end Go.Proofs.YtndlihclgdkpaaaGreatDoor
namespace Go.Proofs.YtndlihclgdkpaaaGreatDoor
namespace Mrk

def spl (n:Nat):Nat:=2 ^ Nat.log2 (n - 1)
theorem spl_pos (n:Nat):0<spl n:=Nat.two_pow_pos _
theorem spl_lt {n:Nat} (h:2≤n):spl n<n:=by
 have:=Nat.log2_self_le (n:=n - 1) (by omega)
 unfold spl
 omega
theorem spl_ge {n:Nat} (h:2≤n):n≤2*spl n:=by
 have:=Nat.lt_log2_self (n:=n - 1)
 rw [Nat.pow_succ] at this
 unfold spl
 omega
theorem spl_unique {n k:Nat} (h:2 ^ k<n) (h2:n≤2 ^ (k+1)):spl n=2 ^ k:=by
 unfold spl
 have:Nat.log2 (n - 1)=k:=by
  rw [Nat.log2_eq_iff (by have:=Nat.two_pow_pos k;omega)]
  rw [Nat.pow_succ] at h2 ⊢
  omega
 rw [this]
def rootM (l:List (List Nat)):List Nat:=
 if h:2≤l.length then node (rootM (l.take (spl l.length))) (rootM (l.drop (spl l.length)))
 else if l.length=0 then Sha.sum [] else l.getD 0 []
termination_by l.length
decreasing_by
 ·rw [List.length_take];have:=spl_lt h;omega
 ·rw [List.length_drop];have:=spl_pos l.length;omega
theorem rootM_two {l:List (List Nat)} (h:2≤l.length):rootM l=node (rootM (l.take (spl l.length))) (rootM (l.drop (spl l.length))):=by
 rw [rootM,dif_pos h]
theorem rootM_one {l:List (List Nat)} (h:l.length=1):rootM l=l.getD 0 []:=by
 rw [rootM,dif_neg (by omega),if_neg (by omega)]
theorem rootM_len {l:List (List Nat)} (h: ∀x ∈ l,x.length=32):(rootM l).length=32:=by
 by_cases h2:2≤l.length
 ·rw [rootM_two h2];exact node_len _ _
 ·by_cases h1:l.length=1
  ·rw [rootM_one h1]
   match l,h1 with
   | [x],_=>exact h x (List.mem_cons_self ..)
  ·rw [rootM,dif_neg h2,if_pos (by omega)]
   exact Sha.sum_length _
theorem rootM_lt {l:List (List Nat)} (h: ∀x ∈ l,∀y ∈ x,y<256): ∀y ∈ rootM l,y<256:=by
 by_cases h2:2≤l.length
 ·rw [rootM_two h2];exact node_lt _ _
 ·by_cases h1:l.length=1
  ·rw [rootM_one h1]
   match l,h1 with
   | [x],_=>exact h x (List.mem_cons_self ..)
  ·rw [rootM,dif_neg h2,if_pos (by omega)]
   exact Sha.sum_lt _
def pathM (i:Nat) (l:List (List Nat)):List (List Nat):=
 if h:2≤l.length then
  (if i<spl l.length then pathM i (l.take (spl l.length))++[rootM (l.drop (spl l.length))]
  else pathM (i - spl l.length) (l.drop (spl l.length))++[rootM (l.take (spl l.length))])
 else []
termination_by l.length
decreasing_by
 ·rw [List.length_take];have:=spl_lt h;omega
 ·rw [List.length_drop];have:=spl_pos l.length;omega
theorem pathM_left {i:Nat} {l:List (List Nat)} (h:2≤l.length) (hi:i<spl l.length):pathM i l=pathM i (l.take (spl l.length))++[rootM (l.drop (spl l.length))]:=by
 rw [pathM,dif_pos h,if_pos hi]
theorem pathM_right {i:Nat} {l:List (List Nat)} (h:2≤l.length) (hi: ¬i<spl l.length):pathM i l=pathM (i - spl l.length) (l.drop (spl l.length))++[rootM (l.take (spl l.length))]:=by
 rw [pathM,dif_pos h,if_neg hi]
theorem pathM_one {i:Nat} {l:List (List Nat)} (h:l.length≤1):pathM i l=[]:=by
 rw [pathM,dif_neg (by omega)]
def climbM (x:List Nat):Nat→Nat→List (List Nat)→Option (List Nat)
 | i,n,ps=>
   if h:2≤n then
    (match ps.getLast? with
    | none=>none
    | some q=>if i<spl n then (climbM x i (spl n) ps.dropLast).map (fun y=>node y q) else (climbM x (i - spl n) (n - spl n) ps.dropLast).map (fun y=>node q y))
   else if ps=[] then some x else none
termination_by _ n _=>n
decreasing_by
 ·exact spl_lt h
 ·have:=spl_pos n;omega
theorem climbM_one {x:List Nat} {i n:Nat} {ps:List (List Nat)} (h:n≤1):climbM x i n ps=if ps=[] then some x else none:=by
 rw [climbM,dif_neg (by omega)]
theorem climbM_nil {x:List Nat} {i n:Nat} (h:2≤n):climbM x i n []=none:=by
 rw [climbM,dif_pos h]
 rfl
theorem climbM_left {x:List Nat} {i n:Nat} {ps:List (List Nat)} {q:List Nat} (h:2≤n) (hi:i<spl n):climbM x i n (ps++[q])=(climbM x i (spl n) ps).map (fun y=>node y q):=by
 rw [climbM,dif_pos h,List.getLast?_concat,List.dropLast_concat]
 exact if_pos hi
theorem climbM_right {x:List Nat} {i n:Nat} {ps:List (List Nat)} {q:List Nat} (h:2≤n) (hi: ¬i<spl n):climbM x i n (ps++[q])=(climbM x (i - spl n) (n - spl n) ps).map (fun y=>node q y):=by
 rw [climbM,dif_pos h,List.getLast?_concat,List.dropLast_concat]
 exact if_neg hi
theorem climbM_path (n:Nat): ∀(l:List (List Nat)) (i:Nat),l.length=n→i<n→climbM (l.getD i []) i n (pathM i l)=some (rootM l):=by
 induction n using Nat.strongRecOn with
 | ind n ih=>
   intro l i hl hi
   by_cases h2:2≤n
   ·have h2':2≤l.length:=by omega
    have h3:=spl_lt h2
    have h4:=spl_pos n
    by_cases h1:i<spl n
    ·rw [pathM_left h2' (by rw [hl];exact h1),climbM_left h2 h1,rootM_two h2',hl,← getD_take l i (spl n) h1,ih (spl n) h3 (l.take (spl n)) i (by rw [List.length_take];omega) h1]
     rfl
    ·have h5:=ih (n - spl n) (by omega) (l.drop (spl n)) (i - spl n) (by rw [List.length_drop];omega) (by omega)
     rw [getD_drop,show spl n+(i - spl n)=i by omega] at h5
     rw [pathM_right h2' (by rw [hl];exact h1),climbM_right h2 h1,rootM_two h2',hl,h5]
     rfl
   ·have:n=1:=by omega
    subst this
    have hi0:i=0:=by omega
    subst hi0
    rw [pathM_one (by omega),climbM_one (by omega),if_pos rfl,rootM_one hl]
theorem pathM_32 (n:Nat): ∀(l:List (List Nat)) (i:Nat),l.length=n→(∀x ∈ l,x.length=32)→ ∀p ∈ pathM i l,p.length=32:=by
 induction n using Nat.strongRecOn with
 | ind n ih=>
   intro l i hl h p hp
   by_cases h2:2≤n
   ·have h2':2≤l.length:=by omega
    have h3:=spl_lt h2
    have h4:=spl_pos n
    by_cases h1:i<spl l.length
    ·rw [pathM_left h2' h1] at hp
     rcases List.mem_append.1 hp with hp | hp
     ·exact ih (spl n) h3 (l.take (spl l.length)) i (by rw [List.length_take,hl];omega) (fun x hx=>h x (List.mem_of_mem_take hx)) p hp
     ·rw [List.mem_singleton.1 hp]
      exact rootM_len (fun x hx=>h x (List.mem_of_mem_drop hx))
    ·rw [pathM_right h2' h1] at hp
     rcases List.mem_append.1 hp with hp | hp
     ·exact ih (n - spl n) (by omega) (l.drop (spl l.length)) _ (by rw [List.length_drop,hl]) (fun x hx=>h x (List.mem_of_mem_drop hx)) p hp
     ·rw [List.mem_singleton.1 hp]
      exact rootM_len (fun x hx=>h x (List.mem_of_mem_take hx))
   ·rw [pathM_one (by omega)] at hp
    simp at hp
theorem pathM_lt (n:Nat): ∀(l:List (List Nat)) (i:Nat),l.length=n→(∀x ∈ l,∀y ∈ x,y<256)→ ∀p ∈ pathM i l,∀y ∈ p,y<256:=by
 induction n using Nat.strongRecOn with
 | ind n ih=>
   intro l i hl h p hp
   by_cases h2:2≤n
   ·have h2':2≤l.length:=by omega
    have h3:=spl_lt h2
    have h4:=spl_pos n
    by_cases h1:i<spl l.length
    ·rw [pathM_left h2' h1] at hp
     rcases List.mem_append.1 hp with hp | hp
     ·exact ih (spl n) h3 (l.take (spl l.length)) i (by rw [List.length_take,hl];omega) (fun x hx=>h x (List.mem_of_mem_take hx)) p hp
     ·rw [List.mem_singleton.1 hp]
      exact rootM_lt (fun x hx=>h x (List.mem_of_mem_drop hx))
    ·rw [pathM_right h2' h1] at hp
     rcases List.mem_append.1 hp with hp | hp
     ·exact ih (n - spl n) (by omega) (l.drop (spl l.length)) _ (by rw [List.length_drop,hl]) (fun x hx=>h x (List.mem_of_mem_drop hx)) p hp
     ·rw [List.mem_singleton.1 hp]
      exact rootM_lt (fun x hx=>h x (List.mem_of_mem_take hx))
   ·rw [pathM_one (by omega)] at hp
    simp at hp
theorem pathM_len (k:Nat): ∀(l:List (List Nat)) (i:Nat),l.length≤2 ^ k→(pathM i l).length≤k:=by
 induction k with
 | zero=>
   intro l i h
   rw [pathM_one (by simpa using h)]
   exact Nat.le_refl _
 | succ k ih=>
   intro l i h
   by_cases h2:2≤l.length
   ·have h3:=spl_ge h2
    have h5:=spl_lt h2
    have hk:spl l.length≤2 ^ k:=by
     unfold spl
     refine Nat.pow_le_pow_right (by decide) ?_
     have:Nat.log2 (l.length - 1)<k+1:=(Nat.log2_lt (by omega)).2 (by omega)
     omega
    by_cases h1:i<spl l.length
    ·rw [pathM_left h2 h1,List.length_append]
     have:=ih (l.take (spl l.length)) i (by rw [List.length_take];omega)
     simp only [List.length_cons,List.length_nil]
     omega
    ·rw [pathM_right h2 h1,List.length_append]
     have:=ih (l.drop (spl l.length)) (i - spl l.length) (by rw [List.length_drop];rw [Nat.pow_succ] at h;omega)
     simp only [List.length_cons,List.length_nil]
     omega
   ·rw [pathM_one (by omega)]
    exact Nat.zero_le _
end Mrk
end Go.Proofs.YtndlihclgdkpaaaGreatDoor
namespace Go.Proofs.YtndlihclgdkpaaaGreatDoor
open Go.RowKit
open Kit (Chg)
open Sha (v)
open Go.Proofs.YtndlihclgdkpaaaGreatDoor.One

def NotX (X:Nat→Prop):Nat→Nat→Prop:=fun q _=> ¬X q
theorem NotX.alloc (X:Nat→Prop) (w:World) (o:Obj):Chg (NotX X) w (w.alloc o):=Chg.alloc1 w o
theorem NotX.own {X:Nat→Prop} {w w':World} {own:Option Nat} (hg:w.grownBy w' own) (hx: ∀q,own=some q→ ¬X q):Chg (NotX X) w w':=Chg.of_grown hg (fun q _ e=>hx q e)
theorem NotX.next {X:Nat→Prop} {w:World} {own new:Option Nat} (hX: ∀q,X q→q<w.heap.size) (hx: ∀q,own=some q→ ¬X q) (h:new=own∨new=some w.heap.size): ∀q,new=some q→ ¬X q:=fun q e hq=>by
 rcases h with h | h
 ·exact hx q (by rw [← h];exact e) hq
 ·rw [h] at e
  have:=hX q hq
  cases e
  omega
theorem extend_x (base:Nat) (X:Nat→Prop) (x:Value) (bs:List Nat) (n:Nat) (hn:n<18446744073709551616) (hl:bs.length≤100000) (w:World) (hO:w.ownsRow base 5 1 x bs.length (bvals bs)) (hb:base≤w.heap.size) (hX: ∀q,X q→q<w.heap.size) (hx: ∀q,x.ownBlock=some q→ ¬X q):
    Calls Tryz.prog 200 #[x,.int .u64 (n:Int)] w fun e w'=> ∃v',e= .returned v'∧w'.ownsRow base 5 1 v' (bs++num n).length (bvals (bs++num n))∧(∀q,v'.ownBlock=some q→ ¬X q)∧Chg (NotX X) w w':=by
 have HO:=hid hO
 have HN10:=hid (num_len10 hn)
 have HL:=hid hl
 have HBB:=hid hb
 have HXX:=hid hX
 have HX0:=hid hx
 obtain ⟨i0,hi,hz0,hz1,hz2⟩:=info_parts Tryz.info5
 have FI:=hid hi
 have FZ0:=hid hz0
 have FZ1:=hid hz1
 have FZ2:=hid hz2
 clear hi hz0 hz1 hz2 hO hl hb hX hx
 go_enter Tryz.func200,Tryz.ntmps200
 go_wp2_with fail
 go_loopw [0,1] (fun x y wr=> ∃(k:Nat) (cur:List Nat),y= .int .u64 (k:Int)∧k<18446744073709551616∧Hid (cur++num k=bs++num n)∧Hid (wr.ownsRow base 5 1 x cur.length (bvals cur))∧Hid (∀q,x.ownBlock=some q→ ¬X q)∧Hid (Chg (NotX X) w wr)) (fun _ y _=>(intOf y).toNat)
 case atStart=>exact ⟨n,bs,rfl,hn,rfl,HO.o,HX0.o,Chg.refl _ _⟩
 case round=>
  obtain ⟨k,cur,rfl,hk,HE,HOW,HOX,HC⟩:=hrel
  have HCL:Hid (cur.length≤100010):=hid (by have:=congrArg List.length HE.o;rw [List.length_append,List.length_append] at this;have:=HN10.o;have:=HL.o;omega)
  have HBS:Hid (base≤wr.heap.size):=hid (by have:=HC.o.size;have:=HBB.o;omega)
  have HXR:Hid (∀q,X q→q<wr.heap.size):=hid (fun q hq=>Nat.lt_of_lt_of_le (HXX.o q hq) HC.o.size)
  by_cases h128:128≤k
  ·have hi128:(128:Int)≤(k:Int):=by omega
   have HBV:Hid (bvals cur++[.int .u8 (bits .or .u8 ((k:Int) % 256) 128)]=bvals (cur++[k % 128+128])):=hid (by rw [bvals_snoc,or128])
   have HNE:Hid (cur++[k % 128+128]++num (k/128)=bs++num n):=hid (by rw [← HE.o,num_big h128];simp)
   go_wp2_with (first
    | (at_builtin
       refine wpList_append_own_at _ rfl _ _ 52 rfl base 5 i0 (.int .u8 0) 1 1 Tryz.underlying52 FI.o FZ0.o FZ1.o FZ2.o rfl (by decide) _ _ _ rfl (HOW.o.alloc _) ⟨wr.heap.size,0,none⟩ 1 1 [.int .u8 (bits .or .u8 ((k:Int) % 256) 128)] rfl rfl (cell_one_new _ _ _) (by simp [Value.oneCell']) (by have:=HCL.o;unfold maxLen;omega) (by have:=HCL.o;omega) (by have:=HBS.o;simp;omega) ?_
       intro v' w4 hown4 hgr4 _ hat4
       have HO4:Hid (w4.ownsRow base 5 1 v' (cur.length+1) (bvals (cur++[k % 128+128]))):=by rw [← HBV.o];exact hown4
       have HX4:Hid (∀q,v'.ownBlock=some q→ ¬X q):=hid (NotX.next (fun q hq=>by have:=HXR.o q hq;simp;omega) HOX.o hat4)
       have HC4:Hid (Chg (NotX X) wr w4):=hid ((NotX.alloc X wr _).trans (NotX.own hgr4 HOX.o))
       clear hown4 hgr4 hat4))
   go_roundw
   case rel=>exact ⟨k/128,cur++[k % 128+128],by go_num,by omega,HNE.o,by rw [List.length_append];exact HO4.o,HX4.o,HC.o.trans HC4.o⟩
   case measure=>simp [intOf];omega
  ·have hi128: ¬(128:Int)≤(k:Int):=by omega
   have HBV:Hid (bvals cur++[.int .u8 (k:Int)]=bvals (cur++[k])):=hid (by rw [bvals_snoc])
   have HNE:Hid (cur++[k]=bs++num n):=hid (by rw [← HE.o,num_small (by omega)])
   go_wp2_with (first
    | (at_builtin
       refine wpList_append_own_at _ rfl _ _ 52 rfl base 5 i0 (.int .u8 0) 1 1 Tryz.underlying52 FI.o FZ0.o FZ1.o FZ2.o rfl (by decide) _ _ _ rfl (HOW.o.alloc _) ⟨wr.heap.size,0,none⟩ 1 1 [.int .u8 (k:Int)] rfl rfl (cell_one_new _ _ _) (by simp [Value.oneCell']) (by have:=HCL.o;unfold maxLen;omega) (by have:=HCL.o;omega) (by have:=HBS.o;simp;omega) ?_
       intro v' w4 hown4 hgr4 _ hat4
       have HO4:Hid (w4.ownsRow base 5 1 v' (cur.length+1) (bvals (cur++[k]))):=by rw [← HBV.o];exact hown4
       have HX4:Hid (∀q,v'.ownBlock=some q→ ¬X q):=hid (NotX.next (fun q hq=>by have:=HXR.o q hq;simp;omega) HOX.o hat4)
       have HC4:Hid (Chg (NotX X) wr w4):=hid ((NotX.alloc X wr _).trans (NotX.own hgr4 HOX.o))
       clear hown4 hgr4 hat4))
   go_ret
   refine ⟨_,rfl,?_,HX4.o,HC.o.trans HC4.o⟩
   have h:=HO4.o
   have e:cur.length+1=(bs++num n).length:=by rw [← HNE.o];simp
   rw [e,HNE.o,List.length_append] at h
   exact h
def WrX (w:World) (g B:Nat) (X:Nat→Prop) (bs:List Nat):Prop:=g<B∧B≤w.heap.size∧ ¬X g∧(∀q,X q→q<w.heap.size)∧ ∃v L,bs.length=L∧w.heap[g]? =some (.cells #[v,.int .i64 0] 265 (0,0))∧w.ownsRow B 5 1 v L (bvals bs)∧(∀x ∈ bs,x<256)∧ ∀q,v.ownBlock=some q→ ¬X q
theorem WrX.at {w:World} {g B:Nat} {X:Nat→Prop} {bs:List Nat} (h:WrX w g B X bs):WrAt w g B bs:=by
 obtain ⟨h1,h2,_,_,v,L,h3,h4,h5,h6,_⟩:=h
 exact ⟨h1,h2,v,L,h3,h4,h5,h6⟩
theorem WrX.cat {w:World} {g B:Nat} {X:Nat→Prop} {bs cs:List Nat} (h:WrX w g B X bs) (e:bs=cs):WrX w g B X cs:=e ▸ h
theorem WrAt.x {w:World} {g B:Nat} {bs:List Nat} (h:WrAt w g B bs): ∃k,(k=g∨(B≤k∧k<w.heap.size))∧ ∀w',Below w.heap.size w w'→WrX w' g B (fun q=>q<w'.heap.size∧q≠g∧q≠k) bs:=by
 have hl:=fun w' (hb:Below w.heap.size w w')=>h.later hb
 obtain ⟨h1,h2,v,L,h3,h4,h5,h6⟩:=h
 have hk: ∃k,(k=g∨(B≤k∧k<w.heap.size))∧ ∀q,v.ownBlock=some q→q=k:=by
  cases hv:v.ownBlock with
  | none=>exact ⟨g,.inl rfl,fun q e=>by cases e⟩
  | some k=>exact ⟨k,.inr (h5.lt k hv),fun q e=>by cases e;rfl⟩
 obtain ⟨k,hk1,hk2⟩:=hk
 refine ⟨k,hk1,fun w' hb=>⟨h1,Nat.le_trans h2 hb.size,fun hx=>hx.2.1 rfl,fun q hq=>hq.1,v,L,h3,(hb.block g (gS h4).1).trans h4,ownsRow_keepM h5 (Chg.of_below hb:Chg (fun _ _=>False) w w') (fun q hq i e=>e),h6,fun q e hx=>hx.2.2 (hk2 q e)⟩⟩
theorem wrUint_x (g B:Nat) (X:Nat→Prop) (bs:List Nat) (n:Nat) (hn:n<18446744073709551616) (hl:bs.length≤100000) (w:World) (h:WrX w g B X bs):
    Calls Tryz.prog 105 #[.pointer (some ⟨g,0,none⟩),.int .u64 (n:Int)] w fun e w'=>e= .returned (.tuple #[])∧WrX w' g B X (bs++num n)∧Chg (NotX X) w w':=by
 obtain ⟨hgB,hlt,hgX,hXX,v0,L,hL,hg,ho,hb8,hv0⟩:=h
 subst hL
 have HG:=hid hg
 have HX:=hid (extend_x B (fun q=>X q∨q=g) v0 bs n hn hl w ho hlt (fun q hq=>by
  rcases hq with hq | hq
  ·exact hXX q hq
  ·rw [hq];omega) (fun q e hq=>by
  rcases hq with hq | hq
  ·exact hv0 q e hq
  ·have:=(ho.lt q e).1;omega))
 have HLT:=hid hlt
 have HGB:=hid hgB
 have HGX:=hid hgX
 have HXX:=hid hXX
 have HLN:Hid ((bs++num n).length≤1000000):=hid (by rw [List.length_append];have:=num_len10 hn;omega)
 have HB8:Hid (∀x ∈ bs++num n,x<256):=hid (app_lt hb8 (num_lt n))
 obtain ⟨c0,c1,cf⟩:=wr_cells hg
 obtain ⟨cs,hcs⟩:=ex_eq (bs++num n)
 rw [hcs] at HX HLN HB8 ⊢
 clear hg ho hlt hgB hb8 hl hgX hXX hv0 hcs hn
 go_enter Tryz.func105,Tryz.ntmps105
 go_wp2_with (first
  | (go_at_call 200
     (refine HX.o.mono ?_)
     rintro e w2 ⟨v2,rfl,ho2,hx2,h2⟩
     obtain ⟨a2,cp2,rfl,_,_,_,_,_⟩:=own_bytes ho2 HB8.o (by have:=HLN.o;unfold maxLen;omega)
     have HG2:=hid ((h2.other g (gS HG.o).1 (fun i hm=>hm (.inr rfl))).trans HG.o)
     have HO2:=hid ho2
     have HX2:=hid hx2
     have H2:=hid h2
     clear c0 c1 cf
     obtain ⟨c0,c1,cf⟩:=wr_cells HG2.o
     clear ho2 hx2 h2))
 go_end0
 refine ⟨rfl,⟨HGB.o,by have:=H2.o.size;have:=HLT.o;simp [World.setCell];omega,HGX.o,fun q hq=>by have:=HXX.o q hq;have:=H2.o.size;simp [World.setCell];omega,_,_,rfl,heap_setCell_same w2 g 0 _ _ _ HG2.o,ownsRow_keepM HO2.o (Chg.setCell1 (M:=fun q _=>q=g) w2 g 0 _ rfl) (fun q hq i e=>by have:=(HO2.o.lt q hq).1;have:=HGB.o;omega),HB8.o,fun q e hq=>HX2.o q e (.inl hq)⟩,?_⟩
 exact (H2.o.mono (fun q i _ h hq=>h (.inl hq))).setCell _ HGX.o
end Go.Proofs.YtndlihclgdkpaaaGreatDoor
