/- wire.Writer once more: blocks that a call may not turn; Count. -/
import Derived.Maps.AppendAt
import Derived.Test.YtndlihclgdkpaaaGreatDoorGg
set_option linter.unusedVariables false
set_option linter.unusedSimpArgs false
open Go.Lib (hid)
set_option maxHeartbeats 1000000
set_option maxRecDepth 100000
namespace Go.Proofs.YtndlihclgdkpaaaGreatDoor
open Go.RowKit
open Kit (Chg)
open Sha (v)
open Go.Proofs.YtndlihclgdkpaaaGreatDoor.One

def NotX (X:Nat→Prop):Nat→Nat→Prop:=fun q _=> ¬X q
theorem NotX.alloc (X:Nat→Prop) (w:World) (o:Obj):Chg (NotX X) w (w.alloc o):=Chg.alloc1 w o
theorem NotX.own {X:Nat→Prop} {w w':World} {own:Option Nat} (hg:w.grownBy w' own) (hx: ∀q,own=some q→ ¬X q):Chg (NotX X) w w':=Chg.of_grown hg (fun q _ e=>hx q e)
theorem NotX.next {X:Nat→Prop} {w:World} {own new:Option Nat} (hX: ∀q,X q→q<w.heap.size) (hx: ∀q,own=some q→ ¬X q) (h:new=own∨new=some w.heap.size): ∀q,new=some q→ ¬X q:=fun q e hq=>by
 rcases h with h | h
 ·exact hx q (by rw [← h];exact e) hq
 ·rw [h] at e
  have:=hX q hq
  cases e
  omega
theorem extend_x (base:Nat) (X:Nat→Prop) (x:Value) (bs:List Nat) (n:Nat) (hn:n<18446744073709551616) (hl:bs.length≤100000) (w:World) (hO:w.ownsRow base 5 1 x bs.length (bvals bs)) (hb:base≤w.heap.size) (hX: ∀q,X q→q<w.heap.size) (hx: ∀q,x.ownBlock=some q→ ¬X q):
    Calls Tryz.prog 200 #[x,.int .u64 (n:Int)] w fun e w'=> ∃v',e= .returned v'∧w'.ownsRow base 5 1 v' (bs++num n).length (bvals (bs++num n))∧(∀q,v'.ownBlock=some q→ ¬X q)∧Chg (NotX X) w w':=by
 have HO:=hid hO
 have HN10:=hid (num_len10 hn)
 have HL:=hid hl
 have HBB:=hid hb
 have HXX:=hid hX
 have HX0:=hid hx
 obtain ⟨i0,hi,hz0,hz1,hz2⟩:=info_parts Tryz.info5
 have FI:=hid hi
 have FZ0:=hid hz0
 have FZ1:=hid hz1
 have FZ2:=hid hz2
 clear hi hz0 hz1 hz2 hO hl hb hX hx
 go_enter Tryz.func200,Tryz.ntmps200
 go_wp2_with fail
 go_loopw [0,1] (fun x y wr=> ∃(k:Nat) (cur:List Nat),y= .int .u64 (k:Int)∧k<18446744073709551616∧Hid (cur++num k=bs++num n)∧Hid (wr.ownsRow base 5 1 x cur.length (bvals cur))∧Hid (∀q,x.ownBlock=some q→ ¬X q)∧Hid (Chg (NotX X) w wr)) (fun _ y _=>(intOf y).toNat)
 case atStart=>exact ⟨n,bs,rfl,hn,rfl,HO.o,HX0.o,Chg.refl _ _⟩
 case round=>
  obtain ⟨k,cur,rfl,hk,HE,HOW,HOX,HC⟩:=hrel
  have HCL:Hid (cur.length≤100010):=hid (by have:=congrArg List.length HE.o;rw [List.length_append,List.length_append] at this;have:=HN10.o;have:=HL.o;omega)
  have HBS:Hid (base≤wr.heap.size):=hid (by have:=HC.o.size;have:=HBB.o;omega)
  have HXR:Hid (∀q,X q→q<wr.heap.size):=hid (fun q hq=>Nat.lt_of_lt_of_le (HXX.o q hq) HC.o.size)
  by_cases h128:128≤k
  ·have hi128:(128:Int)≤(k:Int):=by omega
   have HBV:Hid (bvals cur++[.int .u8 (bits .or .u8 ((k:Int) % 256) 128)]=bvals (cur++[k % 128+128])):=hid (by rw [bvals_snoc,or128])
   have HNE:Hid (cur++[k % 128+128]++num (k/128)=bs++num n):=hid (by rw [← HE.o,num_big h128];simp)
   go_wp2_with (first
    | (at_builtin
       refine wpList_append_own_at _ rfl _ _ 52 rfl base 5 i0 (.int .u8 0) 1 1 Tryz.underlying52 FI.o FZ0.o FZ1.o FZ2.o rfl (by decide) _ _ _ rfl (HOW.o.alloc _) ⟨wr.heap.size,0,none⟩ 1 1 [.int .u8 (bits .or .u8 ((k:Int) % 256) 128)] rfl rfl (cell_one_new _ _ _) (by simp [Value.oneCell']) (by have:=HCL.o;unfold maxLen;omega) (by have:=HCL.o;omega) (by have:=HBS.o;simp;omega) ?_
       intro v' w4 hown4 hgr4 _ hat4
       have HO4:Hid (w4.ownsRow base 5 1 v' (cur.length+1) (bvals (cur++[k % 128+128]))):=by rw [← HBV.o];exact hown4
       have HX4:Hid (∀q,v'.ownBlock=some q→ ¬X q):=hid (NotX.next (fun q hq=>by have:=HXR.o q hq;simp;omega) HOX.o hat4)
       have HC4:Hid (Chg (NotX X) wr w4):=hid ((NotX.alloc X wr _).trans (NotX.own hgr4 HOX.o))
       clear hown4 hgr4 hat4))
   go_roundw
   case rel=>exact ⟨k/128,cur++[k % 128+128],by go_num,by omega,HNE.o,by rw [List.length_append];exact HO4.o,HX4.o,HC.o.trans HC4.o⟩
   case measure=>simp [intOf];omega
  ·have hi128: ¬(128:Int)≤(k:Int):=by omega
   have HBV:Hid (bvals cur++[.int .u8 (k:Int)]=bvals (cur++[k])):=hid (by rw [bvals_snoc])
   have HNE:Hid (cur++[k]=bs++num n):=hid (by rw [← HE.o,num_small (by omega)])
   go_wp2_with (first
    | (at_builtin
       refine wpList_append_own_at _ rfl _ _ 52 rfl base 5 i0 (.int .u8 0) 1 1 Tryz.underlying52 FI.o FZ0.o FZ1.o FZ2.o rfl (by decide) _ _ _ rfl (HOW.o.alloc _) ⟨wr.heap.size,0,none⟩ 1 1 [.int .u8 (k:Int)] rfl rfl (cell_one_new _ _ _) (by simp [Value.oneCell']) (by have:=HCL.o;unfold maxLen;omega) (by have:=HCL.o;omega) (by have:=HBS.o;simp;omega) ?_
       intro v' w4 hown4 hgr4 _ hat4
       have HO4:Hid (w4.ownsRow base 5 1 v' (cur.length+1) (bvals (cur++[k]))):=by rw [← HBV.o];exact hown4
       have HX4:Hid (∀q,v'.ownBlock=some q→ ¬X q):=hid (NotX.next (fun q hq=>by have:=HXR.o q hq;simp;omega) HOX.o hat4)
       have HC4:Hid (Chg (NotX X) wr w4):=hid ((NotX.alloc X wr _).trans (NotX.own hgr4 HOX.o))
       clear hown4 hgr4 hat4))
   go_ret
   refine ⟨_,rfl,?_,HX4.o,HC.o.trans HC4.o⟩
   have h:=HO4.o
   have e:cur.length+1=(bs++num n).length:=by rw [← HNE.o];simp
   rw [e,HNE.o,List.length_append] at h
   exact h
def WrX (w:World) (g B:Nat) (X:Nat→Prop) (bs:List Nat):Prop:=g<B∧B≤w.heap.size∧ ¬X g∧(∀q,X q→q<w.heap.size)∧ ∃v L,bs.length=L∧w.heap[g]? =some (.cells #[v,.int .i64 0] 265 (0,0))∧w.ownsRow B 5 1 v L (bvals bs)∧(∀x ∈ bs,x<256)∧ ∀q,v.ownBlock=some q→ ¬X q
theorem WrX.at {w:World} {g B:Nat} {X:Nat→Prop} {bs:List Nat} (h:WrX w g B X bs):WrAt w g B bs:=by
 obtain ⟨h1,h2,_,_,v,L,h3,h4,h5,h6,_⟩:=h
 exact ⟨h1,h2,v,L,h3,h4,h5,h6⟩
theorem WrX.cat {w:World} {g B:Nat} {X:Nat→Prop} {bs cs:List Nat} (h:WrX w g B X bs) (e:bs=cs):WrX w g B X cs:=e ▸ h
theorem WrAt.x {w:World} {g B:Nat} {bs:List Nat} (h:WrAt w g B bs): ∃k,(k=g∨(B≤k∧k<w.heap.size))∧ ∀w',Below w.heap.size w w'→WrX w' g B (fun q=>q<w'.heap.size∧q≠g∧q≠k) bs:=by
 have hl:=fun w' (hb:Below w.heap.size w w')=>h.later hb
 obtain ⟨h1,h2,v,L,h3,h4,h5,h6⟩:=h
 have hk: ∃k,(k=g∨(B≤k∧k<w.heap.size))∧ ∀q,v.ownBlock=some q→q=k:=by
  cases hv:v.ownBlock with
  | none=>exact ⟨g,.inl rfl,fun q e=>by cases e⟩
  | some k=>exact ⟨k,.inr (h5.lt k hv),fun q e=>by cases e;rfl⟩
 obtain ⟨k,hk1,hk2⟩:=hk
 refine ⟨k,hk1,fun w' hb=>⟨h1,Nat.le_trans h2 hb.size,fun hx=>hx.2.1 rfl,fun q hq=>hq.1,v,L,h3,(hb.block g (gS h4).1).trans h4,ownsRow_keepM h5 (Chg.of_below hb:Chg (fun _ _=>False) w w') (fun q hq i e=>e),h6,fun q e hx=>hx.2.2 (hk2 q e)⟩⟩
theorem wrUint_x (g B:Nat) (X:Nat→Prop) (bs:List Nat) (n:Nat) (hn:n<18446744073709551616) (hl:bs.length≤100000) (w:World) (h:WrX w g B X bs):
    Calls Tryz.prog 105 #[.pointer (some ⟨g,0,none⟩),.int .u64 (n:Int)] w fun e w'=>e= .returned (.tuple #[])∧WrX w' g B X (bs++num n)∧Chg (NotX X) w w':=by
 obtain ⟨hgB,hlt,hgX,hXX,v0,L,hL,hg,ho,hb8,hv0⟩:=h
 subst hL
 have HG:=hid hg
 have HX:=hid (extend_x B (fun q=>X q∨q=g) v0 bs n hn hl w ho hlt (fun q hq=>by
  rcases hq with hq | hq
  ·exact hXX q hq
  ·rw [hq];omega) (fun q e hq=>by
  rcases hq with hq | hq
  ·exact hv0 q e hq
  ·have:=(ho.lt q e).1;omega))
 have HLT:=hid hlt
 have HGB:=hid hgB
 have HGX:=hid hgX
 have HXX:=hid hXX
 have HLN:Hid ((bs++num n).length≤1000000):=hid (by rw [List.length_append];have:=num_len10 hn;omega)
 have HB8:Hid (∀x ∈ bs++num n,x<256):=hid (app_lt hb8 (num_lt n))
 obtain ⟨c0,c1,cf⟩:=wr_cells hg
 obtain ⟨cs,hcs⟩:=ex_eq (bs++num n)
 rw [hcs] at HX HLN HB8 ⊢
 clear hg ho hlt hgB hb8 hl hgX hXX hv0 hcs hn
 go_enter Tryz.func105,Tryz.ntmps105
 go_wp2_with (first
  | (go_at_call 200
     (refine HX.o.mono ?_)
     rintro e w2 ⟨v2,rfl,ho2,hx2,h2⟩
     obtain ⟨a2,cp2,rfl,_,_,_,_,_⟩:=own_bytes ho2 HB8.o (by have:=HLN.o;unfold maxLen;omega)
     have HG2:=hid ((h2.other g (gS HG.o).1 (fun i hm=>hm (.inr rfl))).trans HG.o)
     have HO2:=hid ho2
     have HX2:=hid hx2
     have H2:=hid h2
     clear c0 c1 cf
     obtain ⟨c0,c1,cf⟩:=wr_cells HG2.o
     clear ho2 hx2 h2))
 go_end0
 refine ⟨rfl,⟨HGB.o,by have:=H2.o.size;have:=HLT.o;simp [World.setCell];omega,HGX.o,fun q hq=>by have:=HXX.o q hq;have:=H2.o.size;simp [World.setCell];omega,_,_,rfl,heap_setCell_same w2 g 0 _ _ _ HG2.o,ownsRow_keepM HO2.o (Chg.setCell1 (M:=fun q _=>q=g) w2 g 0 _ rfl) (fun q hq i e=>by have:=(HO2.o.lt q hq).1;have:=HGB.o;omega),HB8.o,fun q e hq=>HX2.o q e (.inl hq)⟩,?_⟩
 exact (H2.o.mono (fun q i _ h hq=>h (.inl hq))).setCell _ HGX.o
end Go.Proofs.YtndlihclgdkpaaaGreatDoor
