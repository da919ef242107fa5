/- Texts Rga, Grv, Gso, Gsr, Gfi, merged. -/
import Derived.Shelf.SlSortCmp.InsertionK
import Derived.Shelf.SlicesE.Reverse
import Derived.Shelf.SlicesE.Clone
import Derived.Test.YtndlihclgdkpaaaGreatDoorGd
import Derived.Test.YtndlihclgdkpaaaGreatDoorGf
import Derived.Test.YtndlihclgdkpaaaGreatDoorGg
/- The document's Merkle trees: Join, Node, Leaf, Split, Root. -/
set_option linter.unusedVariables false
set_option linter.unusedSimpArgs false
open Go.Lib (hid)
set_option maxHeartbeats 1000000
namespace Go.Proofs.YtndlihclgdkpaaaGreatDoor
open Go.RowKit
open Kit (Chg)
open Sha (v)
open Go.Proofs.YtndlihclgdkpaaaGreatDoor.One

theorem Tryz.elemS: Tryz.prog.elem 43 =9:=by kernel_rfl
theorem Tryz.sizeOf9' (W:World):(Go.sizeOf 9).run Tryz.prog W= .ok 1 W:=by kernel_rfl
theorem sliceS_h (a:Option Addr) (n cap h:Nat) (hh:h≤cap) (W:World):(Instr.slice 43 (.slice a n cap) none (some (.int .i64 (h:Int))) none).run Tryz.prog W= .ok (.slice (subA a 0 cap) h cap) W:=by
 rw [run_slice_h W 43 _ _ _ (by rw [Tryz.elemS];exact Tryz.underlying43) .i64 _ (by omega) (by omega),Tryz.elemS,Tryz.sizeOf9']
 simp [Result.andThen,sliced,subA]
theorem sliceS_l (a:Option Addr) (n cap l:Nat) (hl:l≤n) (W:World):(Instr.slice 43 (.slice a n cap) (some (.int .i64 (l:Int))) none none).run Tryz.prog W= .ok (.slice (subA a l cap) (n - l) (cap - l)) W:=by
 rw [run_slice_l W 43 _ _ _ (by rw [Tryz.elemS];exact Tryz.underlying43) .i64 _ (by omega) (by omega),Tryz.elemS,Tryz.sizeOf9']
 simp [Result.andThen,sliced,subA]
theorem strsAt_sub {w:World} {a:Option Addr} {ss:List ByteArray} {cap:Nat} (h:StrsAt w a ss) (hc:ss.length≤cap) (l k:Nat):StrsAt w (subA a l cap) ((ss.take k).drop l):=by
 by_cases h0:(ss.take k).drop l=[]
 ·exact .inl h0
 ·have h1:=List.length_pos_iff.2 h0
  rw [List.length_drop,List.length_take] at h1
  rcases h with h | ⟨b,o,rfl,hcell⟩
  ·rw [h] at h1;simp at h1
  ·refine .inr ⟨b,o+l,subA_some (by omega),fun i hi=> ?_⟩
   rw [List.length_drop,List.length_take] at hi
   rw [Nat.add_assoc,hcell (l+i) (by omega)]
   simp [List.getD,List.getElem?_take,show l+i<k by omega]
theorem catB_take_len (ss:List ByteArray) (k:Nat) (h: ∀s ∈ ss,s.size≤1000):(catB (ss.take k)).length≤1000*k:=by
 induction k generalizing ss with
 | zero=>simp [catB]
 | succ k ih=>
   cases ss with
   | nil=>simp [catB]
   | cons s ss=>
     have h1:=ih ss (fun x hx=>h x (List.mem_cons_of_mem _ hx))
     have h2:=h s (List.mem_cons_self ..)
     unfold catB at h1 ⊢
     rw [List.take_succ_cons,List.flatMap_cons,List.length_append]
     have h3:=nb_length s
     omega
theorem refJoin_l (a:Option Addr) (cap L:Nat) (ss:List ByteArray) (hLe:ss.length=L) (hL:L≤1000) (hsz: ∀s ∈ ss,s.size≤1000) (w:World) (hS:StrsAt w a ss) (T:List Nat) (hT:Sha.sum (catB ss)=T):
    Calls Tryz.prog 250 #[.slice a L cap] w fun e w'=> ∃u:ByteArray,e= .returned (.string u)∧nb u=T∧Below w.heap.size w w':=by
 have HLE:=hid hLe
 have HS:=hid hS
 have HT:=hid hT
 have HCL:=hid (fun k=>catB_take_len ss k hsz)
 have HSZ:=hid hsz
 clear hLe hS hT hsz
 go_enter Tryz.func250,Tryz.ntmps250
 go_upto_region 3 with fail
 go_loopw [3,8] (fun x y wr=> ∃(k:Nat) (u:ByteArray),k≤L∧y= .int .i64 (k:Int)∧x= .string u∧u.size≤1000*k∧Hid (nb u=catB (ss.take k))∧wr=w) (fun _ y _=>L - (intOf y).toNat)
 case atStart=>exact ⟨0,_,by omega,rfl,rfl,by decide,rfl,rfl⟩
 case round=>
  obtain ⟨k,u,hk,rfl,rfl,huz,HU,rfl⟩:=hrel
  by_cases hlt:k<L
  ·have hki:(k:Int)<(L:Int):=by omega
   obtain ⟨b,o,rfl,hcs⟩: ∃b o,a=some ⟨b,o,none⟩∧ ∀i,i<ss.length→wr.cell? ⟨b,o+i,none⟩=some (.string (ss.getD i ByteArray.empty)):=by
    rcases HS.o with h | h
    ·have:=HLE.o;rw [h] at this;simp at this;omega
    ·exact h
   have hc:=hcs k (by rw [HLE.o];exact hlt)
   have hz:=HSZ.o _ (getD_mem ss k ByteArray.empty (by rw [HLE.o];exact hlt))
   have HCT:=hid (catB_take ss k (by rw [HLE.o];exact hlt))
   obtain ⟨s,hs⟩:=ex_eq (ss.getD k ByteArray.empty)
   rw [hs] at hc hz HCT
   have hcat: ¬9223372036854775807<u.size+s.size:=by omega
   clear hcs hs
   go_wp2_with fail
   go_roundw
   case rel=>exact ⟨k+1,_,by omega,by go_num,rfl,by rw [ByteArray.size_append];omega,by show _=_;rw [nb_app,HU.o,HCT.o],trivial⟩
   case measure=>simp [intOf];omega
  ·have hki: ¬(k:Int)<(L:Int):=by omega
   have hke:k=L:=by omega
   have HU2:Hid (nb u=catB ss):=hid (by rw [HU.o,hke,← HLE.o,List.take_length])
   obtain ⟨L2,hL2⟩:=ex_eq u.size
   obtain ⟨cp3,w3,hcv3,hle3,hB3,h3⟩:=str_at wr u (by rw [hL2];unfold maxLen;omega) hL2
   have HL2:=hid hL2
   have HB3:=hid hB3
   have H3:=hid h3
   rw [hL2] at huz
   clear hL2 hle3 hB3 h3 hke
   go_wp2_with (first
    | (go_at_call 190
       (refine (refSum_l (some ⟨wr.heap.size,0,none⟩) cp3 (nb u) L2 (by rw [nb_length];exact HL2.o) (fun e=>by cases e) (by omega) w3 HB3.o).mono ?_)
       rintro e w4 ⟨u4,rfl,hu4,h4⟩
       have HU4:=hid hu4
       have H4:=hid (H3.o.trans (h4.mono H3.o.size))
       clear hu4 h4))
   go_ret
   exact ⟨u4,rfl,by rw [HU4.o,HU2.o,HT.o],H4.o⟩
theorem refNode_l (l r:ByteArray) (hl:l.size=32) (hr:r.size=32) (T:List Nat) (hT:Mrk.node (nb l) (nb r)=T) (w:World):
    Calls Tryz.prog 192 #[.string l,.string r] w fun e w'=> ∃u:ByteArray,e= .returned (.string u)∧nb u=T∧u.size=32∧Below w.heap.size w w':=by
 have HTL:Hid (T.length=32):=hid (by rw [← hT];exact Mrk.node_len _ _)
 have HT:Hid (Sha.sum (catB [{ data:= #[1] },l,r])=T):=hid (by rw [← hT,catB_three,one_lit];rfl)
 have HSZ:Hid (∀s ∈ [({ data:= #[1] }:ByteArray),l,r],s.size≤1000):=hid (fun s hs=>by
  simp only [List.mem_cons,List.not_mem_nil,or_false] at hs
  rcases hs with rfl | rfl | rfl
  ·decide
  ·omega
  ·omega)
 clear hl hr hT
 go_enter Tryz.func192,Tryz.ntmps192
 have HB1:Hid (Below w.heap.size w (w.alloc (.cells #[.string { data:= #[1] },.string l,.string r] 9))):=hid ((Below.refl _ _).alloc (Nat.le_refl _) _)
 have HS1:Hid (StrsAt (w.alloc (.cells #[.string { data:= #[1] },.string l,.string r] 9)) (some ⟨w.heap.size,0,none⟩) [{ data:= #[1] },l,r]):=hid (strs_of_row (t:=9) (heap_alloc_new w _))
 go_wp2_with (first
  | (go_at_call 250
     (refine (refJoin_l (some ⟨w.heap.size,0,none⟩) 3 3 [{ data:= #[1] },l,r] rfl (by decide) HSZ.o _ HS1.o T HT.o).mono ?_)
     rintro e w2 ⟨u,rfl,hu,h2⟩
     have HU:=hid hu
     have H2:=hid h2
     clear hu h2))
 go_ret
 exact ⟨u,rfl,HU.o,by rw [← nb_length,HU.o];exact HTL.o,HB1.o.trans (H2.o.mono HB1.o.size)⟩
theorem refLeaf_l (a:Option Addr) (cap:Nat) (xs:List Nat) (L:Nat) (hLe:xs.length=L) (hnil:a=none→cap=0) (hl:L≤1000000) (w:World) (hB:BytesAt w a xs) (T:List Nat) (hT:Mrk.leaf xs=T):
    Calls Tryz.prog 116 #[.slice a L cap] w fun e w'=> ∃u:ByteArray,e= .returned (.string u)∧nb u=T∧u.size=32∧Below w.heap.size w w':=by
 have HTL:Hid (T.length=32):=hid (by rw [← hT];exact Mrk.leaf_len _)
 have HT:Hid (Sha.sum ([0]++xs)=T):=hT
 have HXB:Hid (∀x ∈ [0]++xs,x<256):=hid (fun x hx=>by
  rcases List.mem_append.1 hx with h | h
  ·have:=List.mem_singleton.1 h;omega
  ·exact hB.2.1 x h)
 have HLE:=hid hLe
 have HNIL:=hid hnil
 have HB1:Hid (Below w.heap.size w (w.alloc (.cells #[.int .u8 0] 5))):=hid ((Below.refl _ _).alloc (Nat.le_refl _) _)
 have HBX:=hid (hB.later HB1.o)
 have HO1:Hid ((w.alloc (.cells #[.int .u8 0] 5)).ownsRow w.heap.size 5 1 (.slice (some ⟨w.heap.size,0,none⟩) 1 1) 1 (bvals [0])):=hid ⟨rfl,.inr ⟨w.heap.size,1,_,rfl,Nat.le_refl _,heap_alloc_new w _,Nat.le_refl _,by decide,rfl,rfl⟩⟩
 clear hT hB hLe hnil
 go_enter Tryz.func116,Tryz.ntmps116
 go_wp2_with (first
  | (at_builtin
     refine app_bytes rfl _ _ rfl w.heap.size _ 1 [0] (by rfl) HO1.o (by simp) (by decide) a L cap xs HLE.o (by omega) (by rfl) HBX.o HNIL.o ?_
     intro v5 w5 ho5 hb5
     obtain ⟨a5,cp5,rfl,hl5,hc5,hB5,hnil5,hlt5⟩:=own_bytes ho5 HXB.o (by rw [List.length_append,HLE.o];unfold maxLen;simp;omega)
     have HL5:=hid hl5
     have HB5:=hid hB5
     have HN5:=hid hnil5
     have H5:=hid (HB1.o.trans hb5)
     clear ho5 hb5 hl5 hc5 hB5 hnil5 hlt5)
  | (go_at_call 190
     (refine (refSum_l a5 cp5 ([0]++xs) _ HL5.o HN5.o (by omega) w5 HB5.o).mono ?_)
     rintro e w6 ⟨u6,rfl,hu6,h6⟩
     have HU6:=hid hu6
     have H6:=hid (H5.o.trans (h6.mono H5.o.size))
     clear hu6 h6))
 go_ret
 exact ⟨u6,rfl,by rw [HU6.o,HT.o],by rw [← nb_length,HU6.o,HT.o];exact HTL.o,H6.o⟩
theorem refSplit_ok (k:Nat) (hk:k≤8) (w:World):Calls Tryz.prog 191 #[.int .i64 ((2 ^ (k+1):Nat):Int)] w fun e w'=>e= .returned (.int .i64 ((2 ^ k:Nat):Int))∧w=w':=by
 have hP:2 ^ k≤256:=Nat.pow_le_pow_right (n:=2) (by decide) hk
 have hQ:2 ^ (k+1)=2 ^ k+2 ^ k:=by rw [Nat.pow_succ];omega
 rw [hQ]
 obtain ⟨P,hPe⟩:=ex_eq (2 ^ k)
 have HP:=hid hPe
 rw [hPe] at hP ⊢
 obtain ⟨Q,hQe⟩:=ex_eq (P+P)
 have hQ2:Q≤512:=by omega
 have HQ:=hid hQe
 rw [hQe]
 clear hQ hPe hQe
 go_enter Tryz.func191,Tryz.ntmps191
 go_upto_region 2 with fail
 go_loopw [3] (fun x wr=> ∃(j J:Nat),j≤k∧Hid (2 ^ j=J)∧x= .int .i64 (J:Int)∧wr=w) (fun x _=>Q - (intOf x).toNat)
 case atStart=>exact ⟨0,1,Nat.zero_le _,rfl,rfl,rfl⟩
 case round=>
  obtain ⟨j,J,hj,HJ,rfl,rfl⟩:=hrel
  have hJ0:0<J:=by rw [← HJ.o];exact Nat.two_pow_pos j
  have hJP:J≤P:=by rw [← HJ.o,← HP.o];exact Nat.pow_le_pow_right (by decide) hj
  have hd:IntKind.i64.wrap ((Q:Int) - (J:Int))=(Q:Int) - (J:Int):=by rw [IntKind.wrap_i64];omega
  by_cases hlt:j<k
  ·have hJ2:J+J≤P:=by
      have h1:2 ^ (j+1)≤2 ^ k:=Nat.pow_le_pow_right (by decide) hlt
      rw [Nat.pow_succ,HJ.o,HP.o] at h1
      omega
   have hc:(J:Int)<(Q:Int) - (J:Int):=by have:=HQ.o;omega
   have hm:IntKind.i64.wrap ((J:Int)*2)=(J:Int)*2:=by rw [IntKind.wrap_i64];omega
   go_wp2_with fail
   go_roundw
   case rel=>exact ⟨j+1,J+J,hlt,by show _=_;rw [Nat.pow_succ,HJ.o];omega,by simp;omega,trivial⟩
   case measure=>simp [intOf];have:=HQ.o;omega
  ·have hje:j=k:=by omega
   have hJe:J=P:=by rw [← HJ.o,← HP.o,hje]
   have hc: ¬(J:Int)<(Q:Int) - (J:Int):=by have:=HQ.o;omega
   have HJE:=hid hJe
   clear hje hJe
   go_wp2_with fail
   go_ret
   exact ⟨by rw [HJE.o];rfl,rfl⟩
end Go.Proofs.YtndlihclgdkpaaaGreatDoor
namespace Go.Proofs.YtndlihclgdkpaaaGreatDoor
open Go.RowKit
open Kit (Chg)
open Go.Proofs.YtndlihclgdkpaaaGreatDoor.One

instance:Inhabited Ent:=⟨⟨0,0,0,0,[],ByteArray.empty⟩⟩
instance:Inhabited EV:=⟨⟨default,none,0⟩⟩
instance:Inhabited Hd:=⟨Hd.zero⟩
instance:Inhabited HV:=⟨hvZero⟩
theorem putRow_block {w:World} {bl:Nat} {F cur:Array Value} {T:TypeId} {fr:Nat × Nat} (h:w.heap[bl]? =some (.cells cur T fr)):(Sort.putRow id w bl 0 F).heap[bl]? =some (.cells (Sort.putCells id 0 F cur) T fr):=by
 unfold Sort.putRow Sort.mapBlock
 rw [Array.getElem?_modify,if_pos rfl]
 rw [h]
 rfl
theorem putRow_chg (w:World) (bl:Nat) (F:Array Value):Chg (fun q _=>q=bl) w (Sort.putRow id w bl 0 F):=by
 refine ⟨rfl,rfl,rfl,by rw [Sort.size_putRow];exact Nat.le_refl _,fun k hk hn=> ?_,fun k hn c e f hc=> ?_⟩
 ·have hne: ¬bl=k:=fun e=>hn 0 e.symm
  simp [Sort.putRow,Sort.mapBlock,Array.getElem?_modify,hne]
 ·obtain ⟨i,hi⟩:=hn
  have hne: ¬bl=k:=fun e=>hi e.symm
  exact ⟨c,by simp [Sort.putRow,Sort.mapBlock,Array.getElem?_modify,hne,hc],rfl,fun _ _=>rfl⟩
theorem own_putRow {w:World} {base size n cap bl:Nat} {T:TypeId} {xs:List Value} (h:w.ownsRow base T size (.slice (some ⟨bl,0,none⟩) n cap) n xs) (F:Array Value) (hF:F.size=n*size):(Sort.putRow id w bl 0 F).ownsRow base T size (.slice (some ⟨bl,0,none⟩) n cap) n F.toList:=by
 refine ⟨by rw [Array.length_toList];exact hF,?_⟩
 rcases h.2 with ⟨e,_⟩ | ⟨g,cap',cur,e,h1,h2,h3,h4,h5,h6⟩
 ·cases e
 ·injection e with e1 e2 e3
  injection e1 with e1
  injection e1 with e1
  subst e1
  subst e3
  refine .inr ⟨bl,cap,Sort.putCells id 0 F cur,rfl,h1,putRow_block h2,h3,h4,by unfold Sort.putCells;rw [Array.size_mapIdx];exact h5,?_⟩
  have hle:n*size≤cur.size:=by rw [h5];exact Nat.mul_le_mul_right _ h3
  refine List.ext_getElem (by rw [List.length_take,Array.length_toList,Array.length_toList];unfold Sort.putCells;rw [Array.size_mapIdx];omega) fun i hi1 hi2=> ?_
  rw [Array.length_toList] at hi2
  rw [List.getElem_take,Array.getElem_toList,Array.getElem_toList]
  unfold Sort.putCells
  rw [Array.getElem_mapIdx,if_pos ⟨Nat.zero_le _,by omega⟩,Nat.sub_zero]
  exact getElem!_pos F i hi2
end Go.Proofs.YtndlihclgdkpaaaGreatDoor
namespace Go.Proofs.YtndlihclgdkpaaaGreatDoor
open Go.Shelf
open Go.RowKit
open Kit (Chg)
open Go.Proofs.YtndlihclgdkpaaaGreatDoor.One
theorem own_cases {w:World} {base T n size:Nat} {v:Value} {xs:List Value} (h:w.ownsRow base T size v n xs):(v= .slice none 0 0∧n=0)∨ ∃bl cap,v= .slice (some ⟨bl,0,none⟩) n cap:=by
 rcases h.2 with h0 | ⟨g,cap',cur,e,_⟩
 ·exact .inl h0
 ·exact .inr ⟨g,cap',e⟩
end Go.Proofs.YtndlihclgdkpaaaGreatDoor
namespace Go.Proofs.YtndlihclgdkpaaaGreatDoor
open Go.RowKit
open Kit (Chg)
open Go.Proofs.YtndlihclgdkpaaaGreatDoor.One
theorem row2 {w:World} {N:Nat} {x0 x1:Value} {T:TypeId} {f:Nat × Nat} (hg:w.heap[N]? =some (.cells #[x0,x1] T f)):w.cell? ⟨N,0,none⟩=some x0∧w.cell? ⟨N,1,none⟩=some x1:=by
 constructor<;> (unfold World.cell?;simp only [hg];rfl)
end Go.Proofs.YtndlihclgdkpaaaGreatDoor
namespace Go.Proofs.YtndlihclgdkpaaaGreatDoor
open Go.RowKit
open Kit (Chg)
open Sha (v)
open Go.Proofs.YtndlihclgdkpaaaGreatDoor.One
theorem below_drewN {w:World} {n:Nat}:Below w.heap.size w (w.drewN n):=⟨rfl,rfl,rfl,Nat.le_refl _,fun _ _=>rfl⟩
end Go.Proofs.YtndlihclgdkpaaaGreatDoor
