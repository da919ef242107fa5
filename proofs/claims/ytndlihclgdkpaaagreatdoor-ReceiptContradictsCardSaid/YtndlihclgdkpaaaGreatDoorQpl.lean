/- Plain words of layer 43: receipts, which of them are valid, their encodings, leaves and batches. -/
import Derived.Test.YtndlihclgdkpaaaGreatDoorGe
import Derived.Test.YtndlihclgdkpaaaGreatDoorGg
set_option linter.unusedVariables false
set_option linter.unusedSimpArgs false
open Go.Lib (hid)
namespace Go.Proofs.YtndlihclgdkpaaaGreatDoor
open Go.Proofs.YtndlihclgdkpaaaGreatDoor.One

structure Rc where
 hol:Int
 vlt:Int
 str:ByteArray
 ix:Int
 sz:Int
 day:Int
 ser:Int
 cnt:Int
 pl:Int
 root:ByteArray
 path:List ByteArray
 si:Int
 parts:List ByteArray
 sp:List ByteArray
structure Sg where
 hol:Int
 vlt:Int
 sz:Int
 day:Int
 ser:Int
 str:ByteArray
 ix:Int
deriving DecidableEq
def Rc.sg (r:Rc):Sg:=⟨r.hol,r.vlt,r.sz,r.day,r.ser,r.str,r.ix⟩
def goodP (vlt:Int) (str:ByteArray) (ix sz:Int):Bool:=inB vlt 0 11 && (decide (str.size=32) && (inB ix 0 15 && inB sz 1 65536))
def all32 (l:List ByteArray):Bool:=l.all fun s=>decide (s.size=32)
def sumsB (l:List ByteArray) (m:Nat):Bool:=decide (l.length≤m) && all32 l
def validR (r:Rc):Bool:=inB r.hol 0 11 && (goodP r.vlt r.str r.ix r.sz && (inB r.day 0 999999 && (inB r.ser 0 1099511627776 && (inB r.cnt 1 256 && (inB r.pl 0 (r.cnt - 1) && (decide (r.root.size=32) && (sumsB r.path 8 && (sumsB r.sp 8 && (sumsB r.parts 300 && inB r.si 0 255)))))))))
theorem inB_iff {x lo hi:Int}:inB x lo hi=true↔lo≤x∧x≤hi:=by
 unfold inB
 simp only [Bool.and_eq_true,decide_eq_true_eq]
theorem all32_iff {l:List ByteArray}:all32 l=true↔ ∀s ∈ l,s.size=32:=by
 unfold all32
 simp only [List.all_eq_true,decide_eq_true_eq]
theorem sumsB_iff {l:List ByteArray} {m:Nat}:sumsB l m=true↔l.length≤m∧ ∀s ∈ l,s.size=32:=by
 unfold sumsB
 rw [Bool.and_eq_true,decide_eq_true_eq,all32_iff]
structure GoodP (vlt:Int) (str:ByteArray) (ix sz:Int):Prop where
 v0:0≤vlt
 v1:vlt≤11
 st:str.size=32
 i0:0≤ix
 i1:ix≤15
 s0:1≤sz
 s1:sz≤65536
theorem goodP_iff {vlt:Int} {str:ByteArray} {ix sz:Int}:goodP vlt str ix sz=true↔GoodP vlt str ix sz:=by
 unfold goodP
 simp only [Bool.and_eq_true,decide_eq_true_eq,inB_iff]
 constructor
 ·rintro ⟨⟨a,b⟩,c,⟨d,e⟩,f,g⟩
  exact ⟨a,b,c,d,e,f,g⟩
 ·rintro ⟨a,b,c,d,e,f,g⟩
  exact ⟨⟨a,b⟩,c,⟨d,e⟩,f,g⟩
structure ValidR (r:Rc):Prop where
 h0:0≤r.hol
 h1:r.hol≤11
 gd:GoodP r.vlt r.str r.ix r.sz
 d0:0≤r.day
 d1:r.day≤999999
 s0:0≤r.ser
 s1:r.ser≤1099511627776
 c0:1≤r.cnt
 c1:r.cnt≤256
 p0:0≤r.pl
 p1:r.pl≤r.cnt - 1
 rt:r.root.size=32
 pn:r.path.length≤8
 ps: ∀s ∈ r.path,s.size=32
 qn:r.sp.length≤8
 qs: ∀s ∈ r.sp,s.size=32
 an:r.parts.length≤300
 am: ∀s ∈ r.parts,s.size=32
 x0:0≤r.si
 x1:r.si≤255
theorem validR_iff {r:Rc}:validR r=true↔ValidR r:=by
 unfold validR
 simp only [Bool.and_eq_true,decide_eq_true_eq,inB_iff,goodP_iff,sumsB_iff]
 constructor
 ·rintro ⟨⟨a,b⟩,c,⟨d,e⟩,⟨f,g⟩,⟨h,i⟩,⟨j,k⟩,l,⟨m,n⟩,⟨o,p⟩,⟨q,r⟩,s,t⟩
  exact ⟨a,b,c,d,e,f,g,h,i,j,k,l,m,n,o,p,q,r,s,t⟩
 ·rintro ⟨a,b,c,d,e,f,g,h,i,j,k,l,m,n,o,p,q,r,s,t⟩
  exact ⟨⟨a,b⟩,c,⟨d,e⟩,⟨f,g⟩,⟨h,i⟩,⟨j,k⟩,l,⟨m,n⟩,⟨o,p⟩,⟨q,r⟩,s,t⟩
def encS (r:Rc):List Nat:=num r.hol.toNat++num r.vlt.toNat++nb r.str++headN [r.ix.toNat,r.sz.toNat,r.day.toNat,r.ser.toNat]
where headN (q:List Nat):List Nat:=q.flatMap num
def leafR (r:Rc):List Nat:=Mrk.leaf (encS r)
def wordR:List Nat:=[114,101,99,101,105,112,116,115]
def encB (root:List Nat) (n:Nat):List Nat:=num 8++wordR++root++num n
def batchR (root:List Nat) (n:Nat):List Nat:=Sha.sum (encB root n)
theorem batchR_len (root:List Nat) (n:Nat):(batchR root n).length=32:=Sha.sum_length _
def befR (a b:Rc):Bool:=if a.day≠b.day then decide (a.day<b.day) else if a.hol≠b.hol then decide (a.hol<b.hol) else decide (a.ser<b.ser)
def contraR (a b:Rc):Bool:=validR a && (validR b && (decide (a.hol=b.hol) && (decide (a.ser=b.ser) && !decide (a.sg=b.sg))))
theorem contraR_comm (a b:Rc):contraR b a=contraR a b:=by
 unfold contraR
 have h1:decide (b.hol=a.hol)=decide (a.hol=b.hol):=decide_eq_decide.2 ⟨Eq.symm,Eq.symm⟩
 have h2:decide (b.ser=a.ser)=decide (a.ser=b.ser):=decide_eq_decide.2 ⟨Eq.symm,Eq.symm⟩
 have h3:decide (b.sg=a.sg)=decide (a.sg=b.sg):=decide_eq_decide.2 ⟨Eq.symm,Eq.symm⟩
 rw [h1,h2,h3]
 cases validR a<;> cases validR b<;> rfl
theorem contraR_self (a:Rc):contraR a a=false:=by
 unfold contraR
 simp
end Go.Proofs.YtndlihclgdkpaaaGreatDoor
