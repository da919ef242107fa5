/- Texts Rga, Grv, Gso, Gsr, Gfi, merged. -/
import Derived.Shelf.SlSortCmp.InsertionK
import Derived.Shelf.SlicesE.Reverse
import Derived.Shelf.SlicesE.Clone
import Derived.Test.YtndlihclgdkpaaaGreatDoorGd
import Derived.Test.YtndlihclgdkpaaaGreatDoorGf
import Derived.Test.YtndlihclgdkpaaaGreatDoorGg
/- The document's Merkle trees: Join, Node, Leaf, Split, Root. -/
set_option linter.unusedVariables false
set_option linter.unusedSimpArgs false
open Go.Lib (hid)
namespace Go.Proofs.YtndlihclgdkpaaaGreatDoor
open Go.RowKit
open Kit (Chg)
open Sha (v)
open Go.Proofs.YtndlihclgdkpaaaGreatDoor.One

theorem Tryz.elemS: Tryz.prog.elem 43 =9:=by kernel_rfl
theorem Tryz.sizeOf9' (W:World):(Go.sizeOf 9).run Tryz.prog W= .ok 1 W:=by kernel_rfl
theorem sliceS_h (a:Option Addr) (n cap h:Nat) (hh:h≤cap) (W:World):(Instr.slice 43 (.slice a n cap) none (some (.int .i64 (h:Int))) none).run Tryz.prog W= .ok (.slice (subA a 0 cap) h cap) W:=by
 rw [run_slice_h W 43 _ _ _ (by rw [Tryz.elemS];exact Tryz.underlying43) .i64 _ (by omega) (by omega),Tryz.elemS,Tryz.sizeOf9']
 simp [Result.andThen,sliced,subA]
theorem sliceS_l (a:Option Addr) (n cap l:Nat) (hl:l≤n) (W:World):(Instr.slice 43 (.slice a n cap) (some (.int .i64 (l:Int))) none none).run Tryz.prog W= .ok (.slice (subA a l cap) (n - l) (cap - l)) W:=by
 rw [run_slice_l W 43 _ _ _ (by rw [Tryz.elemS];exact Tryz.underlying43) .i64 _ (by omega) (by omega),Tryz.elemS,Tryz.sizeOf9']
 simp [Result.andThen,sliced,subA]
theorem strsAt_sub {w:World} {a:Option Addr} {ss:List ByteArray} {cap:Nat} (h:StrsAt w a ss) (hc:ss.length≤cap) (l k:Nat):StrsAt w (subA a l cap) ((ss.take k).drop l):=by
 by_cases h0:(ss.take k).drop l=[]
 ·exact .inl h0
 ·have h1:=List.length_pos_iff.2 h0
  rw [List.length_drop,List.length_take] at h1
  rcases h with h | ⟨b,o,rfl,hcell⟩
  ·rw [h] at h1;simp at h1
  ·refine .inr ⟨b,o+l,subA_some (by omega),fun i hi=> ?_⟩
   rw [List.length_drop,List.length_take] at hi
   rw [Nat.add_assoc,hcell (l+i) (by omega)]
   simp [List.getD,List.getElem?_take,show l+i<k by omega]
end Go.Proofs.YtndlihclgdkpaaaGreatDoor
namespace Go.Proofs.YtndlihclgdkpaaaGreatDoor
open Go.RowKit
open Kit (Chg)
open Go.Proofs.YtndlihclgdkpaaaGreatDoor.One

instance:Inhabited Ent:=⟨⟨0,0,0,0,[],ByteArray.empty⟩⟩
instance:Inhabited EV:=⟨⟨default,none,0⟩⟩
instance:Inhabited Hd:=⟨Hd.zero⟩
instance:Inhabited HV:=⟨hvZero⟩
theorem putRow_block {w:World} {bl:Nat} {F cur:Array Value} {T:TypeId} {fr:Nat × Nat} (h:w.heap[bl]? =some (.cells cur T fr)):(Sort.putRow id w bl 0 F).heap[bl]? =some (.cells (Sort.putCells id 0 F cur) T fr):=by
 unfold Sort.putRow Sort.mapBlock
 rw [Array.getElem?_modify,if_pos rfl]
 rw [h]
 rfl
theorem putRow_chg (w:World) (bl:Nat) (F:Array Value):Chg (fun q _=>q=bl) w (Sort.putRow id w bl 0 F):=by
 refine ⟨rfl,rfl,rfl,by rw [Sort.size_putRow];exact Nat.le_refl _,fun k hk hn=> ?_,fun k hn c e f hc=> ?_⟩
 ·have hne: ¬bl=k:=fun e=>hn 0 e.symm
  simp [Sort.putRow,Sort.mapBlock,Array.getElem?_modify,hne]
 ·obtain ⟨i,hi⟩:=hn
  have hne: ¬bl=k:=fun e=>hi e.symm
  exact ⟨c,by simp [Sort.putRow,Sort.mapBlock,Array.getElem?_modify,hne,hc],rfl,fun _ _=>rfl⟩
theorem own_putRow {w:World} {base size n cap bl:Nat} {T:TypeId} {xs:List Value} (h:w.ownsRow base T size (.slice (some ⟨bl,0,none⟩) n cap) n xs) (F:Array Value) (hF:F.size=n*size):(Sort.putRow id w bl 0 F).ownsRow base T size (.slice (some ⟨bl,0,none⟩) n cap) n F.toList:=by
 refine ⟨by rw [Array.length_toList];exact hF,?_⟩
 rcases h.2 with ⟨e,_⟩ | ⟨g,cap',cur,e,h1,h2,h3,h4,h5,h6⟩
 ·cases e
 ·injection e with e1 e2 e3
  injection e1 with e1
  injection e1 with e1
  subst e1
  subst e3
  refine .inr ⟨bl,cap,Sort.putCells id 0 F cur,rfl,h1,putRow_block h2,h3,h4,by unfold Sort.putCells;rw [Array.size_mapIdx];exact h5,?_⟩
  have hle:n*size≤cur.size:=by rw [h5];exact Nat.mul_le_mul_right _ h3
  refine List.ext_getElem (by rw [List.length_take,Array.length_toList,Array.length_toList];unfold Sort.putCells;rw [Array.size_mapIdx];omega) fun i hi1 hi2=> ?_
  rw [Array.length_toList] at hi2
  rw [List.getElem_take,Array.getElem_toList,Array.getElem_toList]
  unfold Sort.putCells
  rw [Array.getElem_mapIdx,if_pos ⟨Nat.zero_le _,by omega⟩,Nat.sub_zero]
  exact getElem!_pos F i hi2
end Go.Proofs.YtndlihclgdkpaaaGreatDoor
namespace Go.Proofs.YtndlihclgdkpaaaGreatDoor
open Go.Shelf
open Go.RowKit
open Kit (Chg)
open Go.Proofs.YtndlihclgdkpaaaGreatDoor.One
theorem own_cases {w:World} {base T n size:Nat} {v:Value} {xs:List Value} (h:w.ownsRow base T size v n xs):(v= .slice none 0 0∧n=0)∨ ∃bl cap,v= .slice (some ⟨bl,0,none⟩) n cap:=by
 rcases h.2 with h0 | ⟨g,cap',cur,e,_⟩
 ·exact .inl h0
 ·exact .inr ⟨g,cap',e⟩
end Go.Proofs.YtndlihclgdkpaaaGreatDoor
namespace Go.Proofs.YtndlihclgdkpaaaGreatDoor
open Go.RowKit
open Kit (Chg)
open Go.Proofs.YtndlihclgdkpaaaGreatDoor.One
theorem row2 {w:World} {N:Nat} {x0 x1:Value} {T:TypeId} {f:Nat × Nat} (hg:w.heap[N]? =some (.cells #[x0,x1] T f)):w.cell? ⟨N,0,none⟩=some x0∧w.cell? ⟨N,1,none⟩=some x1:=by
 constructor<;> (unfold World.cell?;simp only [hg];rfl)
end Go.Proofs.YtndlihclgdkpaaaGreatDoor
namespace Go.Proofs.YtndlihclgdkpaaaGreatDoor
open Go.RowKit
open Kit (Chg)
open Sha (v)
open Go.Proofs.YtndlihclgdkpaaaGreatDoor.One
theorem below_drewN {w:World} {n:Nat}:Below w.heap.size w (w.drewN n):=⟨rfl,rfl,rfl,Nat.le_refl _,fun _ _=>rfl⟩
end Go.Proofs.YtndlihclgdkpaaaGreatDoor
