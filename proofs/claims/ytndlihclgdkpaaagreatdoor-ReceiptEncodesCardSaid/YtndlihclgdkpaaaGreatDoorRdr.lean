/- wire.Reader: how it lies in memory; the plain arithmetic of its numbers. -/
import Derived.Defers
import Derived.BigQuiet
import Derived.Test.YtndlihclgdkpaaaGreatDoorGg
import Derived.Test.YtndlihclgdkpaaaGreatDoorGi
set_option linter.unusedVariables false
set_option linter.unusedSimpArgs false
open Go.Lib (hid)
namespace Go.Proofs.YtndlihclgdkpaaaGreatDoor
open Go.RowKit
open Kit (Chg)
open Sha (v)
open Go.Proofs.YtndlihclgdkpaaaGreatDoor.One

def RdRow (w:World) (p:Nat) (ad:Option Addr) (n c:Nat) (off last er:Int):Prop:=w.heap[p]? =some (.cells #[.slice ad n c,.int .i64 off,.int .i64 last,.int .i64 er] 268 (0,0))
theorem RdRow.cells {w:World} {p:Nat} {ad:Option Addr} {n c:Nat} {off last er:Int} (h:RdRow w p ad n c off last er):w.cell? ⟨p,0,none⟩=some (.slice ad n c)∧w.cell? ⟨p,1,none⟩=some (.int .i64 off)∧w.cell? ⟨p,2,none⟩=some (.int .i64 last)∧w.cell? ⟨p,3,none⟩=some (.int .i64 er)∧(∀i,w.frozen? ⟨p,i,none⟩=false):=
 ⟨cr h,cr h,cr h,cr h,fun i=>frozen_of_row _ _ _ _ _ h⟩
theorem RdRow.lt {w:World} {p:Nat} {ad:Option Addr} {n c:Nat} {off last er:Int} (h:RdRow w p ad n c off last er):p<w.heap.size:=(gS h).1
theorem RdRow.later {w w':World} {p:Nat} {ad:Option Addr} {n c:Nat} {off last er:Int} {B:Nat} (h:RdRow w p ad n c off last er) (hb:Below B w w') (hp:p<B):RdRow w' p ad n c off last er:=(hb.block p hp).trans h
theorem RdRow.put1 {w:World} {p:Nat} {ad:Option Addr} {n c:Nat} {off last er:Int} (h:RdRow w p ad n c off last er) (x:Int):RdRow (w.setCell ⟨p,1,none⟩ (.int .i64 x)) p ad n c x last er:=heap_setCell_same w p 1 _ _ _ h
theorem RdRow.put2 {w:World} {p:Nat} {ad:Option Addr} {n c:Nat} {off last er:Int} (h:RdRow w p ad n c off last er) (x:Int):RdRow (w.setCell ⟨p,2,none⟩ (.int .i64 x)) p ad n c off x er:=heap_setCell_same w p 2 _ _ _ h
theorem RdRow.put3 {w:World} {p:Nat} {ad:Option Addr} {n c:Nat} {off last er:Int} (h:RdRow w p ad n c off last er) (x:Int):RdRow (w.setCell ⟨p,3,none⟩ (.int .i64 x)) p ad n c off last x:=heap_setCell_same w p 3 _ _ _ h
def StOk (D:List Nat) (off er:Int):RS→Prop
 | some r=>er=0∧ ∃o:Nat,off=(o:Int)∧o≤D.length∧D.drop o=r
 | none=>er≠0
def RdAt (w:World) (p:Nat) (D:List Nat) (s:RS):Prop:= ∃ad c off last er,RdRow w p ad D.length c off last er∧D.length≤c∧(ad=none→c=0)∧BytesAt w ad D∧(D≠[]→ ∀x,ad=some x→x.block≠p)∧StOk D off er s
abbrev RdM (p:Nat):Nat→Nat→Prop:=fun q _=>q=p
theorem RdAt.later {w w':World} {p:Nat} {D:List Nat} {s:RS} (h:RdAt w p D s) (hb:Below w.heap.size w w'):RdAt w' p D s:=by
 obtain ⟨ad,c,off,last,er,h1,h2,h6,h3,h4,h5⟩:=h
 exact ⟨ad,c,off,last,er,h1.later hb h1.lt,h2,h6,h3.later hb,h4,h5⟩
def numJoin (A k:Nat) (x:Option (Nat × List Nat)):Option (Nat × List Nat):=match x with
 | some (v,r)=>some (A+128 ^ k*v,r)
 | none=>none
theorem numJoin_zero (x:Option (Nat × List Nat)):numJoin 0 0 x=x:=by
 cases x with
 | none=>rfl
 | some p=>obtain ⟨v,r⟩:=p;show some (0+128 ^ 0*v,r)=_;rw [Nat.pow_zero,Nat.one_mul,Nat.zero_add]
theorem rdGo_step {k b:Nat} {r:List Nat} {A j:Nat} (hb:128≤b):numJoin A j (rdGo (k+1) (b::r))=numJoin (A+128 ^ j*(b - 128)) (j+1) (rdGo k r):=by
 have e:rdGo (k+1) (b::r)=match rdGo k r with | some (v,r')=>some (b - 128+128*v,r') | none=>none:=by
  rw [rdGo,if_pos hb]
  rfl
 rw [e]
 cases rdGo k r with
 | none=>simp only [numJoin]
 | some p=>
   obtain ⟨v,r'⟩:=p
   simp only [numJoin,Option.some.injEq,Prod.mk.injEq,and_true]
   rw [Nat.mul_add,Nat.pow_succ,Nat.mul_assoc,Nat.add_assoc]
theorem rdGo_bad {k b:Nat} {r:List Nat} {A j:Nat} (hb:b<128) (h:(k<9∧b=0)∨(k=0∧1<b)):numJoin A j (rdGo (k+1) (b::r))=none:=by
 rw [rdGo,if_neg (by omega),if_pos h]
 rfl
theorem rdGo_last {k b:Nat} {r:List Nat} {A j:Nat} (hb:b<128) (h: ¬((k<9∧b=0)∨(k=0∧1<b))):numJoin A j (rdGo (k+1) (b::r))=some (A+128 ^ j*b,r):=by
 rw [rdGo,if_neg (by omega),if_neg h]
 rfl
theorem ofInt64 (n:Nat) (h:n<18446744073709551616):(BitVec.ofInt 64 (n:Int)).toNat=n:=by
 rw [BitVec.toNat_ofInt]
 show ((n:Int) % ((18446744073709551616:Nat):Int)).toNat=n
 omega
theorem or_shl {A x k:Nat} (hk:k≤9) (hA:A<128 ^ k):bits .or .u64 (A:Int) (((x*128 ^ k % 18446744073709551616:Nat)):Int)=((A+x*128 ^ k % 18446744073709551616:Nat):Int):=by
 have h64:128 ^ k≤128 ^ 9:=Nat.pow_le_pow_right (by decide) hk
 have hA64:A<18446744073709551616:=by omega
 have hB:x*128 ^ k % 18446744073709551616<18446744073709551616:=Nat.mod_lt _ (by decide)
 obtain ⟨c,hc⟩: ∃c,x*128 ^ k % 18446744073709551616=2 ^ (7*k)*c:=by
  refine ⟨x % 2 ^ (64 - 7*k),?_⟩
  rw [show (18446744073709551616:Nat)=2 ^ (7*k)*2 ^ (64 - 7*k) by rw [← Nat.pow_add];rw [show 7*k+(64 - 7*k)=64 by omega],show (128:Nat) ^ k=2 ^ (7*k) by rw [Nat.pow_mul],Nat.mul_comm x,Nat.mul_mod_mul_left]
 have hA2:A<2 ^ (7*k):=by rw [Nat.pow_mul];exact hA
 show IntKind.u64.wrap ((BitVec.ofInt 64 (A:Int) ||| BitVec.ofInt 64 ((x*128 ^ k % 18446744073709551616:Nat):Int)).toNat:Int)=_
 rw [BitVec.toNat_or,ofInt64 _ hA64,ofInt64 _ hB,hc,Nat.or_comm,← Nat.two_pow_add_eq_or_of_lt hA2,← hc]
 have hs:x*128 ^ k % 18446744073709551616+A<18446744073709551616:=by
  rw [hc] at hB ⊢
  have h1:2 ^ (7*k)*c+A<2 ^ (7*k)*(c+1):=by rw [Nat.mul_succ];omega
  have h2:c+1≤2 ^ (64 - 7*k):=by
   have h3:2 ^ (7*k)*c<2 ^ (7*k)*2 ^ (64 - 7*k):=by rw [← Nat.pow_add,show 7*k+(64 - 7*k)=64 by omega];exact hB
   exact Nat.lt_of_mul_lt_mul_left h3
  have h3:2 ^ (7*k)*(c+1)≤2 ^ (7*k)*2 ^ (64 - 7*k):=Nat.mul_le_mul_left _ h2
  rw [← Nat.pow_add,show 7*k+(64 - 7*k)=64 by omega] at h3
  omega
 rw [IntKind.wrap_u64,Nat.add_comm A]
 omega
theorem and127 {x:Nat} (hx:x<256):bits .and .u8 (x:Int) 127=((x % 128:Nat):Int):=by
 show IntKind.u8.wrap ((BitVec.ofInt 8 (x:Int) &&& BitVec.ofInt 8 (127:Int)).toNat:Int)=_
 rw [BitVec.toNat_and,ofInt8 x hx,show (BitVec.ofInt 8 (127:Int)).toNat=2 ^ 7 - 1 from rfl,Nat.and_two_pow_sub_one_eq_mod,IntKind.wrap_u8]
 omega
theorem acc_eq {A x k:Nat} (hk:k≤9) (hA:A<128 ^ k) (hx:x<256):bits .or .u64 (A:Int) (IntKind.u64.wrap (IntKind.u64.wrap (bits .and .u8 (x:Int) 127)*2 ^ (7*k)))=((A+x % 128*128 ^ k % 18446744073709551616:Nat):Int):=by
 have e1:IntKind.u64.wrap (bits .and .u8 (x:Int) 127)=((x % 128:Nat):Int):=by rw [and127 hx,IntKind.wrap_u64];omega
 have e2:((x % 128:Nat):Int)*2 ^ (7*k)=((x % 128*128 ^ k:Nat):Int):=by
  rw [Int.natCast_mul,Int.natCast_pow,Int.pow_mul]
  rfl
 rw [e1,e2,IntKind.wrap_u64,← or_shl hk hA]
 rfl
end Go.Proofs.YtndlihclgdkpaaaGreatDoor
