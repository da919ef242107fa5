/- Texts Sga, Sgb, Sgc, Sgd, Sge, Sgf, merged. -/
import Derived.Laws.ResultCell
import Derived.Test.YtndlihclgdkpaaaGreatDoorGc
import Derived.Test.YtndlihclgdkpaaaGreatDoorGd
import Derived.Test.YtndlihclgdkpaaaGreatDoorGe
/- signature: schemes, seeds of keys. -/
set_option linter.unusedVariables false
set_option linter.unusedSimpArgs false
open Go.Lib (hid)
set_option maxHeartbeats 2000000
set_option maxRecDepth 100000
namespace Go.Proofs.YtndlihclgdkpaaaGreatDoor
open Go.RowKit
open Kit (Chg)
open Sha (v)
open Go.Proofs.YtndlihclgdkpaaaGreatDoor.One

def onetimeB:List Nat:=[111,110,101,116,105,109,101]
def keyIn (i:Nat):List Nat:=onetimeB++num i
def keySeed (seed:List Nat) (i:Nat):List Nat:=tag seed (keyIn i)
theorem keySeed_len (seed:List Nat) (i:Nat):(keySeed seed i).length=32:=Sha.sum_length _
theorem keyIn_lt (i:Nat): ∀x ∈ keyIn i,x<256:=by
 intro x hx
 rcases List.mem_append.1 hx with h | h
 ·have h2: ∀y ∈ onetimeB,y<256:=by decide
  exact h2 x h
 ·exact num_lt i x h
theorem keyIn_len {i:Nat} (h:i≤999):(keyIn i).length≤9:=by
 unfold keyIn
 rw [List.length_append]
 have h1:=num_len (n:=i) (by omega)
 have h2:onetimeB.length=7:=rfl
 omega
def SV (B H:Int):Prop:=(B=1∨B=2∨B=4)∧0≤H∧H≤8
instance (B H:Int):Decidable (SV B H):=by unfold SV;infer_instance
theorem sv_of {B H:Int} (h:SV B H): ∃b t:Nat,B=(b:Int)∧H=(t:Int)∧Bits b∧b≤4∧t≤8:=by
 obtain ⟨h1,h2,h3⟩:=h
 refine ⟨B.toNat,H.toNat,by omega,by omega,?_,by omega,by omega⟩
 unfold Bits
 omega
theorem isSumS_any (s:ByteArray) (w:World):Calls Tryz.prog 77 #[.string s] w fun e w'=>e= .returned (.bool (decide (s.size=32)))∧w=w':=by
 have e:((s.size:Int)==32)=decide (s.size=32):=by
  rw [Bool.eq_iff_iff,beq_iff_eq,decide_eq_true_eq];omega
 go_enter Tryz.func77,Tryz.ntmps77
 go_wp2
 go_ret
 exact ⟨rfl,rfl⟩
theorem paramsOf_any (B H:Int) (w:World):Calls Tryz.prog 78 #[.agg #[.int .i64 B,.int .i64 H]] w fun e w'=>e= .returned (.agg #[.int .i64 B,.int .i64 32])∧Below w.heap.size w w':=by
 go_enter Tryz.func78,Tryz.ntmps78
 go_wp2
 refine bodyPost_ret (results_cell_row (p:=2) rfl _ _ (w.heap.size+1) 139 #[.int .i64 B,.int .i64 32] (0,0) _ (by rfl) ?_ Tryz.underlying139 rfl (by kernel_rfl)) rfl ⟨rfl,?_⟩
 ·have h:=heap_alloc_new (w.alloc (.cells #[.int .i64 B,.int .i64 H] 23)) (.cells #[.int .i64 B,.int .i64 32] 139)
  rwa [World.size_alloc] at h
 ·exact ((Below.refl _ _).alloc (Nat.le_refl _) _).alloc (by simp) _
theorem idx3 (k:Nat) (h:k<3) (W:World):(Instr.index 238 (.agg #[.int .i64 1,.int .i64 2,.int .i64 4]) (.int .i64 (k:Int))).run Tryz.prog W= .ok (.int .i64 ([1,2,4].getD k (0:Int))) W:=by
 have hu: Tryz.prog.underlying 238 =some (.array 3 3):= Tryz.underlying238
 have hk:(0:Int)≤(k:Int)∧(k:Int)<(3:Nat):=by omega
 simp [Instr.index,run_underlying hu,asIntOf,hk,go_sem]
 match k,h with
 | 0,_=>rfl
 | 1,_=>rfl
 | 2,_=>rfl
theorem schemeValid_any (B S:Int) (w:World):Calls Tryz.prog 76 #[.agg #[.int .i64 B,.int .i64 S]] w fun e w'=>e= .returned (.bool (decide (SV B S)))∧Below w.heap.size w w':=by
 by_cases h1:0≤S
 ·by_cases h2:S≤8
  ·go_enter Tryz.func76,Tryz.ntmps76
   go_upto_region 1 with fail
   refine wp_over (fun W=>Hid (W.heap[w.heap.size]? =some (.cells #[.int .i64 B,.int .i64 S] 23 (0,0)))∧Hid (Below w.heap.size w W)) ⟨heap_alloc_new _ _,(Below.refl _ _).alloc (Nat.le_refl _) _⟩ ?_
   rintro W ⟨HG,HB⟩
   obtain ⟨N,hN⟩:=ex_eq w.heap.size
   rw [hN] at HG HB ⊢
   have HN:=hid hN
   clear hN
   have c0:W.cell? ⟨N,0,none⟩=some (.int .i64 B):=cr HG.o
   have c1:W.cell? ⟨N,1,none⟩=some (.int .i64 S):=cr HG.o
   have h1n: ¬S<0:=by omega
   have h2n: ¬8<S:=by omega
   go_upto_region 3 with fail
   go_wp2_with fail
   go_loopw [14] (fun x wr=> ∃k:Nat,k≤3∧x= .int .i64 (k:Int)∧wr=W∧Hid (∀j,j<k→B≠[1,2,4].getD j 0)) (fun x _=>3 - (intOf x).toNat)
   case atStart=>exact ⟨0,by omega,rfl,rfl,fun j h=>by omega⟩
   case round=>
    obtain ⟨k,hk,rfl,rfl,HNE⟩:=hrel
    by_cases hlt:k<3
    ·have hki:(k:Int)<3:=by omega
     have hidx:=idx3 k hlt
     have HX4:Hid (∀X:Int,[1,2,4].getD k (0:Int)=X→X=1∨X=2∨X=4):=hid (by
      rintro X rfl
      match k,hlt with
      | 0,_=>decide
      | 1,_=>decide
      | 2,_=>decide)
     obtain ⟨X,hX⟩:=ex_eq ([1,2,4].getD k (0:Int))
     rw [hX] at hidx
     have HX:=hid hX
     clear hX
     by_cases hb:B=X
     ·go_wp2_with fail
      go_ret
      refine ⟨?_,by rw [HN.o];exact HB.o⟩
      rw [show decide (SV B S)=true from decide_eq_true ⟨by rw [hb];exact HX4.o X HX.o,h1,h2⟩]
      rfl
     ·go_wp2_with fail
      go_roundw
      case rel=>
       refine ⟨k+1,by omega,by go_num,trivial,fun j hj=> ?_⟩
       by_cases e:j=k
       ·subst e;rw [HX.o];exact hb
       ·exact HNE.o j (by omega)
      case measure=>simp [intOf];omega
    ·have e4:k=3:=by omega
     subst e4
     rw [show (((3:Nat)):Int)=3 from rfl]
     have n0:=HNE.o 0 (by decide)
     have n1:=HNE.o 1 (by decide)
     have n2:=HNE.o 2 (by decide)
     have HF:Hid (decide (SV B S)=false):=hid (decide_eq_false (fun h=>by
      rcases h.1 with e | e | e
      ·exact n0 e
      ·exact n1 e
      ·exact n2 e))
     clear n0 n1 n2 HNE
     go_wp2_with fail
     go_ret
     refine ⟨?_,by rw [HN.o];exact HB.o⟩
     rw [HF.o]
     rfl
  ·go_enter Tryz.func76,Tryz.ntmps76
   go_wp2
   go_ret
   refine ⟨?_,(Below.refl _ _).alloc (Nat.le_refl _) _⟩
   rw [show decide (SV B S)=false from decide_eq_false (fun h=>by have:=h.2.2;omega)]
   rfl
 ·go_enter Tryz.func76,Tryz.ntmps76
  go_wp2
  go_ret
  refine ⟨?_,(Below.refl _ _).alloc (Nat.le_refl _) _⟩
  rw [show decide (SV B S)=false from decide_eq_false (fun h=>by have:=h.2.1;omega)]
  rfl
theorem keySeed_ok (seed:ByteArray) (hs:seed.size=32) (c:Nat) (hc:c≤255) (w:World) (hL:Laid w):
    Calls Tryz.prog 80 #[.string seed,.int .i64 (c:Int)] w fun e w'=> ∃u:ByteArray,e= .returned (.tuple #[.string u,.int .i64 0])∧nb u=keySeed (nb seed) c∧u.size=32∧Below w.heap.size w w':=by
 have HS:Hid (decide (seed.size=32)=true):=hid (decide_eq_true hs)
 have hci: ¬(255:Int)<(c:Int):=by omega
 have hwc:IntKind.u64.wrap (c:Int)=(c:Int):=by rw [IntKind.wrap_u64];omega
 have HK:Hid (seed.size≤64):=hid (by omega)
 have HL:=hid hL
 have HDB:=hid (keyIn_lt c)
 have HDL:=hid (keyIn_len (i:=c) (by omega))
 have HDE:Hid (onetimeB++num c=keyIn c):=rfl
 have HTE:Hid (tag (nb seed) (keyIn c)=keySeed (nb seed) c):=rfl
 have HTL:=hid (keySeed_len (nb seed) c)
 obtain ⟨T,hT⟩:=ex_eq (keySeed (nb seed) c)
 obtain ⟨DS,hDS⟩:=ex_eq (keyIn c)
 rw [hDS,hT] at HTE
 rw [hDS] at HDB HDL HDE
 rw [hT] at HTL ⊢
 clear hL hs hT hDS
 have hcl:=conv_lit w #[.int .u8 111,.int .u8 110,.int .u8 101,.int .u8 116,.int .u8 105,.int .u8 109,.int .u8 101] 7 7
 go_enter Tryz.func80,Tryz.ntmps80
 go_upto_region 3 with (first
  | (with_reducible refine (isSumS_any seed _).mono ?_;rintro e w2 ⟨rfl,rfl⟩;rw [HS.o]))
 have HLA:Hid (∀fr,BytesAt (w.alloc (.cells #[.int .u8 111,.int .u8 110,.int .u8 101,.int .u8 116,.int .u8 105,.int .u8 109,.int .u8 101] 5 fr)) (some ⟨w.heap.size,0,none⟩) onetimeB):=hid (fun fr=>lit_alloc rfl (by decide) (by decide))
 go_wp2_with (first
  | (with_reducible refine (appUint_l (some ⟨w.heap.size,0,none⟩) 7 onetimeB 7 rfl (fun e=>by cases e) c (by omega) (by decide) _ (HLA.o _) DS HDE.o).mono ?_
     rintro e w3 ⟨v3,n3,rfl,hn3,h3,h4⟩
     have H4:Hid (Below w.heap.size w w3):=hid (((Below.refl _ w).alloc (Nat.le_refl _) _).trans (h4.mono (by simp)))
     obtain ⟨a3,cp3,rfl,hl3,hc3,hB3,hnil3,hlt3⟩:=own_bytes h3 HDB.o (by have:=HDL.o;unfold maxLen;omega)
     have HL3:=hid hl3
     have HC3:=hid hc3
     have HB3:=hid hB3
     have HN3:=hid hnil3
     have HLT3:=hid hlt3
     clear hn3 h3 h4 hl3 hc3 hB3 hnil3 hlt3)
  | (with_reducible refine (tag_l seed HK.o a3 cp3 DS n3 HL3.o HC3.o HN3.o (by have:=HDL.o;omega) w3 HB3.o (fun ad e _=>(HLT3.o ad e).2) (HL.o.later H4.o (Nat.le_refl _)) T HTE.o).mono ?_
     rintro e w4 ⟨u,rfl,hu,h5⟩
     have HU:=hid hu
     have H5:=hid (H4.o.trans (h5.mono H4.o.size))
     clear hu h5))
 go_ret2
 exact ⟨u,rfl,HU.o,nb_size HU.o HTL.o,H5.o⟩
def sigLeaf (b:Nat) (seed:List Nat) (i:Nat):List Nat:=Mrk.leaf (pub b (keySeed seed i) (count b 32))
def sigLeaves (b:Nat) (seed:List Nat) (n:Nat):List (List Nat):=(List.range n).map (sigLeaf b seed)
def sigPub (b:Nat) (seed:List Nat) (t:Nat):List Nat:=Mrk.root t (sigLeaves b seed (2 ^ t))
theorem sigLeaves_len (b:Nat) (seed:List Nat) (n:Nat):(sigLeaves b seed n).length=n:=by simp [sigLeaves]
theorem sigLeaves_32 (b:Nat) (seed:List Nat) (n:Nat): ∀y ∈ sigLeaves b seed n,y.length=32:=by
 intro y hy
 obtain ⟨i,_,rfl⟩:=List.mem_map.1 hy
 exact Mrk.leaf_len _
theorem sigLeaves_succ (b:Nat) (seed:List Nat) (n:Nat):sigLeaves b seed (n+1)=sigLeaves b seed n++[sigLeaf b seed n]:=range_snoc _ _
def signerRow (b:Nat) (seed:ByteArray) (gt:Nat) (pk:ByteArray) (P next:Nat):Array Value:= #[.int .i64 (b:Int),.int .i64 32,.string seed,.pointer (some ⟨gt,0,none⟩),.string pk,.int .i64 (P:Int),.int .i64 (next:Int)]
structure SignerAt (w:World) (B g:Nat) (b t:Nat) (seed pk:ByteArray) (next:Nat):Prop where
 ex: ∃gt ls,w.heap[g]? =some (.cells (signerRow b seed gt pk (2 ^ t) next) 144 (0,0))∧TreeAt w B gt ls∧TreeOf ls (sigLeaves b (nb seed) (2 ^ t))
 base:B≤g
 pk:nb pk=sigPub b (nb seed) t
 bits:Bits b
 size:seed.size=32
 height:t≤8
 next:next≤2 ^ t
theorem SignerAt.later {w w':World} {B g b t next:Nat} {seed pk:ByteArray} (h:SignerAt w B g b t seed pk next) (hb:Below w.heap.size w w'):SignerAt w' B g b t seed pk next:=by
 obtain ⟨gt,ls,h1,h2,h3⟩:=h.ex
 exact ⟨⟨gt,ls,(hb.block g (gS h1).1).trans h1,h2.later hb,h3⟩,h.base,h.pk,h.bits,h.size,h.height,h.next⟩
theorem SignerAt.lt {w:World} {B g b t next:Nat} {seed pk:ByteArray} (h:SignerAt w B g b t seed pk next):g<w.heap.size:=by
 obtain ⟨gt,ls,h1,h2,h3⟩:=h.ex
 exact (gS h1).1
theorem row_cells {w:World} {g b gt P next:Nat} {seed pk:ByteArray} (hg:w.heap[g]? =some (.cells (signerRow b seed gt pk P next) 144 (0,0))):
    w.cell? ⟨g,0,none⟩=some (.int .i64 (b:Int))∧w.cell? ⟨g,1,none⟩=some (.int .i64 32)∧w.cell? ⟨g,2,none⟩=some (.string seed)∧w.cell? ⟨g,3,none⟩=some (.pointer (some ⟨gt,0,none⟩))∧
     w.cell? ⟨g,4,none⟩=some (.string pk)∧w.cell? ⟨g,5,none⟩=some (.int .i64 (P:Int))∧w.cell? ⟨g,6,none⟩=some (.int .i64 (next:Int)):=
 ⟨cr hg,cr hg,cr hg,cr hg,cr hg,cr hg,cr hg⟩
theorem tree_base {w:World} {B B' g:Nat} {ls:List (List ByteArray)} (h:TreeAt w B g ls) (hb:B'≤B):TreeAt w B' g ls:=by
 obtain ⟨bl,cap,rows,h⟩:=h
 exact ⟨bl,cap,rows,h.box,Nat.le_trans hb h.base,ownsRow_base h.row hb,h.rows.len,fun k hk=>ownsRow_base (h.rows.own k hk) hb,h.rows.apart⟩
theorem tree_aside {w:World} {B g q i:Nat} {ls:List (List ByteArray)} {c:Array Value} {T:TypeId} {f:Nat × Nat} {x:Value} (h:TreeAt w B g ls) (hq:w.heap[q]? =some (.cells c T f)) (h9:T≠9) (h47:T≠ 43) (hT:T≠ 241):TreeAt (w.setCell ⟨q,i,none⟩ x) B g ls:=by
 obtain ⟨bl,cap,rows,h⟩:=h
 have hc:Chg (fun k _=>k=q) w (w.setCell ⟨q,i,none⟩ x):=Chg.setCell1 _ _ _ _ rfl
 refine ⟨bl,cap,rows,?_,h.base,ownsRow_keepM h.row hc (fun k hk _ e=> ?_),h.rows.keep fun k _ ho=>ownsRow_keepM ho hc (fun j hj _ e=> ?_)⟩
 ·refine (hc.other g (gS h.box).1 (fun _ e=> ?_)).trans h.box
  have:=h.box
  rw [e,hq] at this
  cases this
  exact hT rfl
 ·subst e
  exact not_row_of h.row hq h47 hk.symm
 ·subst e
  exact not_row_of ho hq h9 hj.symm
theorem signerNew_ok (b t:Nat) (hB:Bits b) (hb4:b≤4) (ht:t≤8) (seed:ByteArray) (hs:seed.size=32) (w:World) (hL:Laid w):
    Calls Tryz.prog 16 #[.agg #[.int .i64 (b:Int),.int .i64 (t:Int)],.string seed] w fun e w'=> ∃g pk,e= .returned (.tuple #[.pointer (some ⟨g,0,none⟩),.int .i64 0])∧SignerAt w' w.heap.size g b t seed pk 0∧Below w.heap.size w w':=by
 have hsv:SV (b:Int) (t:Int):=⟨by rcases hB with rfl | rfl | rfl | rfl<;> first | omega | simp,by omega,by omega⟩
 have HV:=hid (fun w=>schemeValid_any (b:Int) (t:Int) w)
 rw [decide_eq_true hsv] at HV
 have HIS:=hid (fun w=>isSumS_any seed w)
 rw [decide_eq_true hs] at HIS
 have HL:=hid hL
 have hP8:2 ^ t≤256:=Nat.pow_le_pow_right (n:=2) (by decide) ht
 have hshl:wrap64 ((2:Int) ^ t)=((2 ^ t:Nat):Int):=by
  rw [show (2:Int) ^ t=((2 ^ t:Nat):Int) from (Int.natCast_pow 2 t).symm]
  obtain ⟨q,hq⟩:=ex_eq (2 ^ t)
  rw [hq] at hP8 ⊢
  exact IntWalk.wrap64_in _ ⟨by omega,by omega⟩
 have hshl2:IntKind.i64.wrap ((2:Int) ^ t)=((2 ^ t:Nat):Int):=by
  rw [show (2:Int) ^ t=((2 ^ t:Nat):Int) from (Int.natCast_pow 2 t).symm]
  obtain ⟨q,hq⟩:=ex_eq (2 ^ t)
  rw [hq] at hP8 ⊢
  rw [IntKind.wrap_i64];omega
 have ht8: ¬(t:Int)<0:=by omega
 clear hL hsv
 go_enter Tryz.func16,Tryz.ntmps16
 go_upto_region 1 with fail
 refine wp_over (fun W=>Hid (W.heap[w.heap.size]? =some (.cells #[.int .i64 (b:Int),.int .i64 (t:Int)] 23 (0,0)))∧Hid (Below w.heap.size w W)∧Hid (W.heap.size=w.heap.size+1)) ⟨heap_alloc_new _ _,(Below.refl _ _).alloc (Nat.le_refl _) _,by show _=_;simp⟩ ?_
 rintro W ⟨HG,HB0,HWN⟩
 obtain ⟨N,hN⟩:=ex_eq w.heap.size
 rw [hN] at HG HB0 HWN ⊢
 have HN:=hid hN
 clear hN
 have HCE:Hid (∀V,Below (N+1) W V→V.cell? ⟨N,0,none⟩=some (.int .i64 (b:Int))∧V.cell? ⟨N,1,none⟩=some (.int .i64 (t:Int))):=hid (fun V h=>by
  have hg:=(h.block N (Nat.lt_succ_self _)).trans HG.o
  exact ⟨cr hg,cr hg⟩)
 have HST:Hid (∀V V',Below (N+1) W V→Below V.heap.size V V'→Below (N+1) W V'):=hid (fun V V' h h'=>h.trans (h'.mono (by have:=h.size;have:=HWN.o;omega)))
 have HEND:Hid (∀V,Below (N+1) W V→Below w.heap.size w V):=hid (fun V h=>by rw [HN.o];exact HB0.o.trans (h.mono (Nat.le_succ N)))
 have HLD:Hid (∀V,Below (N+1) W V→Laid V):=hid (fun V h=>HL.o.later (HEND.o V h) (Nat.le_refl _))
 obtain ⟨c0,c1⟩:=HCE.o W (Below.refl _ _)
 go_upto_region 3 with (first
  | (go_at_call 76
     (refine (HV.o _).mono ?_)
     rintro e w2 ⟨rfl,h2⟩
     have H2:Hid (Below (N+1) W w2):=hid (HST.o _ _ (Below.refl _ _) h2)
     clear h2 c0 c1)
  | (go_at_call 77
     (refine (HIS.o _).mono ?_)
     rintro e w3 ⟨rfl,rfl⟩))
 obtain ⟨P,hP⟩:=ex_eq (2 ^ t)
 rw [hP] at hshl hshl2 hP8
 have HP:=hid hP
 clear hP
 obtain ⟨c0,c1⟩:=HCE.o w2 H2.o
 refine Kit.wp_region_gplan (fun V=>V.cell? ⟨N,0,none⟩=some (.int .i64 (b:Int))∧V.cell? ⟨N,1,none⟩=some (.int .i64 (t:Int))) [(true,0),(true,2),(true,4),(true,5),(true,6),(false,1),(false,3),(true,7),(false,8),(true,9)] (by kernel_rfl) (by kernel_rfl) (by kernel_rfl) (by kernel_rfl) ⟨c0,c1⟩ ?_
 iterate 5 (refine Kit.ghd (h:=?_))
 clear c0 c1
 refine Kit.gplan_op (by rfl) (by rfl) fun K hK=> ?_
 go_simp
 go_at_call 78
 refine (paramsOf_any (b:Int) (t:Int) _).mono ?_
 rintro e w4 ⟨rfl,h4⟩
 have H4:Hid (Below (N+1) W w4):=hid (HST.o _ _ H2.o ((Below.refl _ w2).drew.trans h4))
 clear h4
 refine hK _ _ (HCE.o _ H4.o) ?_
 clear hK K
 refine Kit.gplan_op (by rfl) (by rfl) fun K hK=> ?_
 go_simp
 go_at_call 79
 refine (treeNew_any _).mono ?_
 rintro e w5 ⟨gt,rfl,hgt,hT5,h5⟩
 have HT5:=hid hT5
 have H5:Hid (Below (N+1) W w5):=hid (HST.o _ _ H4.o h5)
 clear h5 hT5 hgt
 refine hK _ _ (HCE.o _ H5.o) ?_
 clear hK K
 refine Kit.gplan_head (by rfl) (.inl ⟨by rfl,fun w' hS=>by (dsimp only at hS);go_simp;(try with_reducible rfl)⟩) ?_
 (try simp only [Act.put,List.setIfInBounds_toArray,List.set_cons_zero,List.set_cons_succ])
 refine Kit.gplan_op (by rfl) (by rfl) fun K hK=> ?_
 go_simp
 obtain ⟨G,hGe⟩:=ex_eq w5.heap.size
 have HGE:=hid hGe
 have HGN:Hid (N+1≤G):=hid (by have:=H5.o.size;have:=HWN.o;omega)
 have h6:Below w5.heap.size w5 (w5.alloc (.cells (signerRow b seed gt ByteArray.empty P 0) 144)):=(Below.refl _ _).alloc (Nat.le_refl _) _
 have H6:Hid (Below (N+1) W (w5.alloc (.cells (signerRow b seed gt ByteArray.empty P 0) 144))):=hid (HST.o _ _ H5.o h6)
 have HR6:Hid ((w5.alloc (.cells (signerRow b seed gt ByteArray.empty P 0) 144)).heap[w5.heap.size]? =some (.cells (signerRow b seed gt ByteArray.empty P 0) 144 (0,0))):=hid (heap_alloc_new w5 _)
 have HT6:Hid (TreeAt (w5.alloc (.cells (signerRow b seed gt ByteArray.empty P 0) 144)) (N+1) gt [[]]):=hid (by
  have h:=HT5.o.later h6
  exact tree_base h (by have:=H4.o.size;have:=HWN.o;omega))
 have HW6:Hid ((w5.alloc (.cells (signerRow b seed gt ByteArray.empty P 0) 144)).heap.size=w5.heap.size+1):=hid (by simp)
 refine hK _ (w5.alloc (.cells (signerRow b seed gt ByteArray.empty P 0) 144)) (HCE.o _ H6.o) ?_
 clear hK K h6
 refine Kit.gplan_head (by rfl) (.inl ⟨by rfl,fun w' hS=>by (dsimp only at hS);go_simp;(try with_reducible rfl)⟩) ?_
 refine Kit.gdn (h:=?_)
 obtain ⟨w6,hw6⟩:=ex_eq (w5.alloc (.cells (signerRow b seed gt ByteArray.empty P 0) 144))
 rw [hw6] at H6 HR6 HT6 HW6 ⊢
 rw [hGe] at HR6 HW6 ⊢
 clear hw6 hGe hshl hshl2 ht8
 obtain ⟨k0,k1,k2,k3,k4,k5,k6⟩:=row_cells HR6.o
 go_upto_region 5 with fail
 clear k0 k1 k2 k3 k4 k5 k6
 go_loopw [33] (fun xi wr=> ∃(i:Nat) (ls:List (List ByteArray)),i≤P∧xi= .int .i64 (i:Int)∧Hid (wr.heap[G]? =some (.cells (signerRow b seed gt ByteArray.empty P 0) 144 (0,0)))∧Hid (TreeAt wr (N+1) gt ls)∧Hid (TreeOf ls (sigLeaves b (nb seed) i))∧Hid (Below (N+1) W wr)∧Hid (gt≠G)) (fun xi _=>P - (intOf xi).toNat)
 case atStart=>exact ⟨0,[[]],by omega,rfl,HR6.o,HT6.o,treeOf_nil,H6.o,fun e=>by have:=HT5.o.lt;have:=HGE.o;omega⟩
 case round=>
  obtain ⟨i,ls,hi,rfl,HR,HT,HO,HBE,HNG⟩:=hrel
  by_cases hlt:i<P
  ·have hii:(i:Int)<(P:Int):=by omega
   have HKS:=hid (fun w hL=>keySeed_ok seed hs i (by omega) w hL)
   go_upto_region 8 with (first
    | (go_at_call 80
       (refine (HKS.o _ (HLD.o _ HBE.o)).mono ?_)
       rintro e w7 ⟨u7,rfl,hu7,hz7,h7⟩
       have HU7:=hid hu7
       have HZ7:=hid hz7
       have HR7:=hid ((h7.block G (gS HR.o).1).trans HR.o)
       have HT7:=hid (HT.o.later h7)
       have H7:=hid (HST.o _ _ HBE.o h7)
       clear hu7 hz7 h7))
   obtain ⟨k0,k1,k2,k3,k4,k5,k6⟩:=row_cells HR7.o
   have HPK:=hid (fun w hL=>public_ok b 32 hB (by decide) (by decide) u7 HZ7.o w hL)
   go_upto_region 9 with (first
    | (go_at_call 81
       (refine (HPK.o _ (HLD.o _ H7.o)).mono ?_)
       rintro e w8 ⟨u8,rfl,hu8,h8⟩
       have HU8:=hid hu8
       have HR8:=hid ((h8.block G (gS HR7.o).1).trans HR7.o)
       have HT8:=hid (HT7.o.later h8)
       have H8:=hid (HST.o _ _ H7.o h8)
       clear hu8 h8 k0 k1 k2 k3 k4 k5 k6))
   obtain ⟨k0,k1,k2,k3,k4,k5,k6⟩:=row_cells HR8.o
   have hz8:u8.size=32:=by rw [← nb_length,HU8.o];exact Sha.sum_length _
   obtain ⟨cp9,w9,hcv9,hle9,hB9,h9⟩:=str_at w8.drew u8 (by rw [hz8];decide) hz8
   obtain ⟨K9,hK9⟩:=ex_eq w8.drew.heap.size
   rw [hK9] at hcv9 hB9
   have HLE9:=hid hle9
   have HB9:=hid hB9
   have h9':Below w8.heap.size w8 w9:=(Below.refl _ w8).drew.trans h9
   have HR9:=hid ((h9'.block G (gS HR8.o).1).trans HR8.o)
   have HT9:=hid (HT8.o.later h9')
   have H9:=hid (HST.o _ _ H8.o h9')
   have HSS:Hid (∀V:World,V.heap[G]? =some (.cells (signerRow b seed gt ByteArray.empty P 0) 144 (0,0))→V.cell? ⟨G,3,none⟩=some (.pointer (some ⟨gt,0,none⟩))):=hid (fun V h=>(row_cells h).2.2.2.1)
   have hbk9:K9<w9.heap.size:=by
    obtain ⟨b',o',he,hcs⟩:=BytesAt.some hB9 (by rw [nb_length,hz8];omega)
    cases he
    exact World.block_lt_of_cell? w9 _ (hcs 0 (by rw [nb_length,hz8];omega))
   have HLF:=hid (leaf_l K9 0 cp9 (nb u8) 32 (by rw [nb_length];exact hz8) hle9 (by omega) w9 hB9 hbk9 (HLD.o _ H9.o) (sigLeaf b (nb seed) i) (by rw [HU8.o,HU7.o];rfl))
   clear hle9 hB9 h9 h9' hK9 hbk9
   refine Kit.wp_region_gplan (fun V=>V.cell? ⟨G,3,none⟩=some (.pointer (some ⟨gt,0,none⟩))) [(true,0),(true,1),(true,2),(true,3),(true,4),(false,5),(false,6),(false,7)] (by kernel_rfl) (by kernel_rfl) (by kernel_rfl) (by kernel_rfl) k3 ?_
   iterate 5 (refine Kit.ghd (h:=?_))
   clear k0 k1 k2 k3 k4 k5 k6
   refine Kit.gplan_op (by rfl) (by rfl) fun K hK=> ?_
   go_simp
   refine hK _ _ (HSS.o _ HR9.o) ?_
   clear hK K hcv9
   refine Kit.gplan_op (by rfl) (by rfl) fun K hK=> ?_
   go_simp
   go_at_call 83
   with_reducible refine HLF.o.mono ?_
   rintro e w10 ⟨u10,rfl,hu10,hz10,h10⟩
   have HU10:Hid (nb u10=sigLeaf b (nb seed) i):=hid hu10
   have HZ10:=hid hz10
   have HR10:=hid ((h10.block G (gS HR9.o).1).trans HR9.o)
   have HT10:=hid (HT9.o.later h10)
   have H10:=hid (HST.o _ _ H9.o h10)
   clear hu10 hz10 h10
   refine hK _ _ (HSS.o _ HR10.o) ?_
   clear hK K
   refine Kit.gplan_op (by rfl) (by rfl) fun K hK=> ?_
   go_simp
   go_at_call 82
   refine (add_ok (N+1) gt ls (sigLeaves b (nb seed) i) HO.o (sigLeaves_32 _ _ _) (by rw [sigLeaves_len];omega) u10 HZ10.o w10 HT10.o (by have:=H10.o.size;have:=HWN.o;omega) (fun V h=>HLD.o V (H10.o.trans h))).mono ?_
   rintro e w11 ⟨rfl,⟨ls11,hT11,hO11⟩,h11,hA11⟩
   have hR11:=hA11 G _ _ _ HR10.o (by decide) (by decide) (by decide)
   have HT11:=hid hT11
   have HO11:Hid (TreeOf ls11 (sigLeaves b (nb seed) (i+1))):=hid (by rw [sigLeaves_succ,← HU10.o];exact hO11)
   have HR11:=hid hR11
   have H11:=hid (H10.o.trans h11)
   clear hT11 hO11 h11 hR11 hA11
   refine hK _ _ (HSS.o _ HR11.o) (Kit.gplan_done ?_)
   clear hK K
   (try simp only [Act.put,List.setIfInBounds_toArray,List.set_cons_zero,List.set_cons_succ])
   go_wp2_with fail
   go_roundw
   case rel=>exact ⟨i+1,ls11,hlt,by go_num,HR11.o,HT11.o,HO11.o,H11.o,HNG.o⟩
   case measure=>simp [intOf];omega
  ·have hii: ¬(i:Int)<(P:Int):=by omega
   have hie:i=P:=by omega
   have HIE:=hid hie
   clear hie
   have hLs:(sigLeaves b (nb seed) i).length=2 ^ t:=by rw [sigLeaves_len,HIE.o,HP.o]
   have HRT:=hid (fun w hT=>treeRoot_ok (N+1) gt ls (sigLeaves b (nb seed) i) HO.o (sigLeaves_32 _ _ _) t ht hLs P HP.o w hT)
   have HPE:Hid (Mrk.root t (sigLeaves b (nb seed) i)=sigPub b (nb seed) t):=hid (by unfold sigPub;rw [HIE.o,HP.o])
   clear hLs
   obtain ⟨k0,k1,k2,k3,k4,k5,k6⟩:=row_cells HR.o
   go_upto_region 11 with fail
   refine Kit.wp_region_gplan (fun V=>V.cell? ⟨G,3,none⟩=some (.pointer (some ⟨gt,0,none⟩))∧V.cell? ⟨G,5,none⟩=some (.int .i64 (P:Int))) [(true,0),(true,1),(true,2),(true,3),(true,4),(true,5),(true,6),(true,7),(true,8),(false,9),(true,10),(true,11),(true,12),(true,13),(true,14),(false,15)] (by kernel_rfl) (by kernel_rfl) (by kernel_rfl) (by kernel_rfl) ⟨k3,k5⟩ ?_
   iterate 9 (refine Kit.ghd (h:=?_))
   clear k0 k1 k2 k3 k4 k5 k6
   refine Kit.gplan_op (by rfl) (by rfl) fun K hK=> ?_
   go_simp
   go_at_call 84
   refine (HRT.o _ (HT.o.later (Below.refl _ wr).drew)).mono ?_
   rintro e w12 ⟨u12,rfl,hu12,hz12,h12⟩
   have h12':Below wr.heap.size wr w12:=(Below.refl _ wr).drew.trans h12
   have HU12:Hid (nb u12=sigPub b (nb seed) t):=hid (by rw [hu12,HPE.o])
   have HR12:=hid ((h12'.block G (gS HR.o).1).trans HR.o)
   have HT12:=hid (HT.o.later h12')
   have H12:=hid (HST.o _ _ HBE.o h12')
   clear hu12 hz12 h12 h12'
   obtain ⟨k0,k1,k2,k3,k4,k5,k6⟩:=row_cells HR12.o
   have kf:w12.frozen? ⟨G,4,none⟩=false:=frozen_of_row _ _ _ _ _ HR12.o
   refine hK _ _ ⟨k3,k5⟩ ?_
   clear hK K
   iterate 5 (refine Kit.ghd (h:=?_))
   refine Kit.gplan_op (by rfl) (by rfl) fun K hK=> ?_
   go_simp
   have HRS:Hid ((w12.setCell ⟨G,4,none⟩ (.string u12)).heap[G]? =some (.cells (signerRow b seed gt u12 P 0) 144 (0,0))):=hid (heap_setCell_same w12 G 4 _ _ _ HR12.o)
   have HTS:Hid (TreeAt (w12.setCell ⟨G,4,none⟩ (.string u12)) (N+1) gt ls):=hid (tree_aside HT12.o HR12.o (by decide) (by decide) (by decide))
   have HBS:Hid (Below (N+1) W (w12.setCell ⟨G,4,none⟩ (.string u12))):=hid (H12.o.setCell (p:=⟨G,4,none⟩) HGN.o _)
   obtain ⟨j0,j1,j2,j3,j4,j5,j6⟩:=row_cells HRS.o
   refine hK _ _ ⟨j3,j5⟩ (Kit.gplan_done ?_)
   clear hK K k0 k1 k2 k3 k4 k5 k6 j0 j1 j2 j3 j4 j5 j6 kf
   (try simp only [Act.put,List.setIfInBounds_toArray,List.set_cons_zero,List.set_cons_succ])
   go_wp2_with fail
   go_ret2
   exact ⟨G,rfl,⟨u12,⟨⟨gt,ls,by rw [HP.o];exact HRS.o,tree_base HTS.o (by have:=HN.o;omega),by rw [HP.o,← HIE.o];exact HO.o⟩,by have:=HN.o;have:=HGN.o;omega,HU12.o,hB,hs,ht,Nat.zero_le _⟩⟩,HEND.o _ HBS.o⟩
theorem results_cell_row_tmp {P:Program} {fn:Func} {p u:Tmp} {ty:TypeId} (h:fn.results= #[.cell p ty,.tmp u]) (tmps:Array Value) (w:World) (g:Nat) (t:TypeId) (cs:Array Value) (fr:Nat × Nat) (d:TypeDesc)
    (hp:tmps.getD p undef= .pointer (some ⟨g,0,none⟩)) (hg:w.heap[g]? =some (.cells cs t fr))
    (hu:P.underlying ty=some d) (hd:(match d with | .struct _ | .array _ _=>true | _=>false)=true) (hi:(P.info? ty).map (·.size)=some cs.size):
    (results fn tmps).run P w= .ok (.tuple #[.agg cs,tmps.getD u undef]) w:=by
 rw [results_cell_tmp h,hp]
 simp [asAddr,run_loadVar_row w g t ty cs fr d hg hu hd hi]
theorem signerPublic_any {B g b t next:Nat} {seed pk:ByteArray} (w:World) (h:SignerAt w B g b t seed pk next):Calls Tryz.prog 24 #[.pointer (some ⟨g,0,none⟩)] w fun e w'=>e= .returned (.string pk)∧w=w':=by
 obtain ⟨gt,ls,hR,_,_⟩:=h.ex
 obtain ⟨k0,k1,k2,k3,k4,k5,k6⟩:=row_cells hR
 clear hR h
 go_enter Tryz.func24,Tryz.ntmps24
 go_wp2_with fail
 go_ret
 exact ⟨rfl,rfl⟩
theorem signerLeft_any {B g b t next:Nat} {seed pk:ByteArray} (w:World) (h:SignerAt w B g b t seed pk next):Calls Tryz.prog 74 #[.pointer (some ⟨g,0,none⟩)] w fun e w'=>e= .returned (.int .i64 ((2 ^ t - next:Nat):Int))∧Below w.heap.size w w':=by
 obtain ⟨gt,ls,hR,_,_⟩:=h.ex
 obtain ⟨k0,k1,k2,k3,k4,k5,k6⟩:=row_cells hR
 have hn:=h.next
 have hP8:2 ^ t≤256:=Nat.pow_le_pow_right (n:=2) (by decide) h.height
 obtain ⟨P,hP⟩:=ex_eq (2 ^ t)
 rw [hP] at k5 hn hP8 ⊢
 obtain ⟨D,hD⟩:=ex_eq (P - next)
 have hsub:(P:Int) - (next:Int)=(D:Int):=by omega
 have hD9:D≤256:=by omega
 rw [hD]
 clear hR h hP hD
 go_enter Tryz.func74,Tryz.ntmps74
 go_upto_region 1 with fail
 refine Kit.wp_region_gplan (fun V=>V.cell? ⟨g,5,none⟩=some (.int .i64 (P:Int))∧V.cell? ⟨g,6,none⟩=some (.int .i64 (next:Int))) [(true,0),(true,1),(true,2),(true,3),(true,4),(true,5),(true,6),(true,7),(true,8),(true,9)] (by kernel_rfl) (by kernel_rfl) (by kernel_rfl) (by kernel_rfl) ⟨k5,k6⟩ ?_
 have hwD:IntKind.i64.wrap (D:Int)=(D:Int):=by rw [IntKind.wrap_i64];omega
 iterate 10 (refine Kit.ghd (h:=?_))
 refine Kit.gdn (h:=?_)
 go_wp2_with fail
 go_ret
 exact ⟨rfl,(Below.refl _ _).drew⟩
theorem SignerAt.set {w:World} {B g b t next:Nat} {seed pk:ByteArray} (h:SignerAt w B g b t seed pk next) (n:Nat) (hn:n≤2 ^ t):SignerAt (w.setCell ⟨g,6,none⟩ (.int .i64 (n:Int))) B g b t seed pk n:=by
 obtain ⟨gt,ls,hR,hT,hO⟩:=h.ex
 exact ⟨⟨gt,ls,heap_setCell_same w g 6 _ _ _ hR,tree_aside hT hR (by decide) (by decide) (by decide),hO⟩,h.base,h.pk,h.bits,h.size,h.height,hn⟩
theorem chg_tree {w w':World} {B g q:Nat} {ls:List (List ByteArray)} {c:Array Value} {T:TypeId} {f:Nat × Nat} {M:Nat→Nat→Prop} (h:TreeAt w B g ls) (hc:Chg M w w') (hM: ∀k i,M k i→k=q) (hq:w.heap[q]? =some (.cells c T f)) (h9:T≠9) (h47:T≠ 43) (hT:T≠ 241):TreeAt w' B g ls:=by
 obtain ⟨bl,cap,rows,h⟩:=h
 refine ⟨bl,cap,rows,?_,h.base,ownsRow_keepM h.row hc (fun k hk i e=> ?_),h.rows.keep fun k _ ho=>ownsRow_keepM ho hc (fun j hj i e=> ?_)⟩
 ·refine (hc.other g (gS h.box).1 (fun i e=> ?_)).trans h.box
  have:=h.box
  rw [hM _ _ e,hq] at this
  cases this
  exact hT rfl
 ·have:=hM _ _ e
  subst this
  exact not_row_of h.row hq h47 hk.symm
 ·have:=hM _ _ e
  subst this
  exact not_row_of ho hq h9 hj.symm
def sigParts (b:Nat) (seed:List Nat) (i:Nat) (dg:List Nat):List (List Nat):=sign (keySeed seed i) (One.digits b dg)
def sigPath (b:Nat) (seed:List Nat) (t i:Nat):List (List Nat):=Mrk.path t i (sigLeaves b seed (2 ^ t))
def SigAt (w:World) (x:Value) (idx:Int) (ps qs:List ByteArray):Prop:= ∃a1 n1 c1 a2 n2 c2,x= .agg #[.int .i64 idx,.slice a1 n1 c1,.slice a2 n2 c2]∧ps.length=n1∧StrsAt w a1 ps∧qs.length=n2∧StrsAt w a2 qs
theorem SigAt.later {w w':World} {x:Value} {idx:Int} {ps qs:List ByteArray} (h:SigAt w x idx ps qs) (hb:Below w.heap.size w w'):SigAt w' x idx ps qs:=by
 obtain ⟨a1,n1,c1,a2,n2,c2,e,h1,h2,h3,h4⟩:=h
 exact ⟨a1,n1,c1,a2,n2,c2,e,h1,h2.later hb,h3,h4.later hb⟩
theorem row3 {w:World} {N:Nat} {a0 a1 a2 x0 x1 x2:Value} {T:TypeId} (hg:w.heap[N]? =some (.cells #[a0,a1,a2] T (0,0))):(((w.setCell ⟨N,0,none⟩ x0).setCell ⟨N,1,none⟩ x1).setCell ⟨N,2,none⟩ x2).heap[N]? =some (.cells #[x0,x1,x2] T (0,0)):=
 heap_setCell_same _ N 2 #[x0,x1,a2] T x2 (heap_setCell_same _ N 1 #[x0,a1,a2] T x1 (heap_setCell_same w N 0 #[a0,a1,a2] T x0 hg))
theorem chg3 {w0 w:World} {N:Nat} {x0 x1 x2:Value} {M:Nat→Nat→Prop} (h:Chg M w0 w) (hN: ∀i,M N i):Chg M w0 (((w.setCell ⟨N,0,none⟩ x0).setCell ⟨N,1,none⟩ x1).setCell ⟨N,2,none⟩ x2):=((h.setCell _ (hN 0)).setCell _ (hN 1)).setCell _ (hN 2)
theorem strs_aside {w:World} {g i:Nat} {a:Option Addr} {ss:List ByteArray} {x:Value} {n:Int} (h:StrsAt w a ss) (hg:w.cell? ⟨g,i,none⟩=some (.int .i64 n)):StrsAt (w.setCell ⟨g,i,none⟩ x) a ss:=by
 rcases h with h | ⟨b,o,e,hc⟩
 ·exact .inl h
 ·refine .inr ⟨b,o,e,fun j hj=>(World.cell?_setCell_other _ _ _ _ (fun e2=> ?_)).trans (hc j hj)⟩
  have h1:=hc j hj
  rw [← e2,hg] at h1
  cases h1
theorem strs3 {w:World} {N:Nat} {a:Option Addr} {ss:List ByteArray} {x0 x1 x2:Value} (h:StrsAt w a ss) (hg:w.heap[N]? =some (.cells #[.int .i64 0,.slice none 0 0,.slice none 0 0] 45 (0,0))):StrsAt (((w.setCell ⟨N,0,none⟩ x0).setCell ⟨N,1,none⟩ x1).setCell ⟨N,2,none⟩ x2) a ss:=by
 rcases h with h | ⟨b,o,e,hc⟩
 ·exact .inl h
 ·have hne: ∀j,j<ss.length→b≠N:=fun j hj e2=>by
     have h1:=hc j hj
     rw [e2,cell_of_row _ _ _ _ _ _ hg] at h1
     have h2:=Array.mem_of_getElem? h1
     simp at h2
  refine .inr ⟨b,o,e,fun j hj=> ?_⟩
  have hb:=hne j hj
  rw [World.cell?_setCell_other _ _ _ _ (fun e2=>hb (congrArg Addr.block e2).symm),World.cell?_setCell_other _ _ _ _ (fun e2=>hb (congrArg Addr.block e2).symm),World.cell?_setCell_other _ _ _ _ (fun e2=>hb (congrArg Addr.block e2).symm)]
  exact hc j hj
theorem signer3 {w:World} {B g b t next N:Nat} {seed pk:ByteArray} {c:Array Value} {x0 x1 x2:Value} (h:SignerAt w B g b t seed pk next) (hg:w.heap[N]? =some (.cells c 45 (0,0))):SignerAt (((w.setCell ⟨N,0,none⟩ x0).setCell ⟨N,1,none⟩ x1).setCell ⟨N,2,none⟩ x2) B g b t seed pk next:=by
 obtain ⟨gt,ls,hR,hT,hO⟩:=h.ex
 have hc:Chg (fun q _=>q=N) w (((w.setCell ⟨N,0,none⟩ x0).setCell ⟨N,1,none⟩ x1).setCell ⟨N,2,none⟩ x2):=chg3 (Chg.refl _ w) (fun _=>rfl)
 refine ⟨⟨gt,ls,(hc.other g (gS hR).1 (fun i e=> ?_)).trans hR,chg_tree hT hc (fun k i e=>e) hg (by decide) (by decide) (by decide),hO⟩,h.base,h.pk,h.bits,h.size,h.height,h.next⟩
 rw [e,hg] at hR
 cases hR
theorem signerSign_ok {B g b t next:Nat} {seed pk:ByteArray} (dg:ByteArray) (hd:dg.size=32) (hn:next<2 ^ t) (w:World) (h:SignerAt w B g b t seed pk next) (hL:Laid w):
    Calls Tryz.prog 91 #[.pointer (some ⟨g,0,none⟩),.string dg] w fun e w'=> ∃x ps qs,e= .returned (.tuple #[x,.int .i64 0])∧SigAt w' x next ps qs∧ps.map nb=sigParts b (nb seed) next (nb dg)∧qs.map nb=sigPath b (nb seed) t next∧SignerAt w' B g b t seed pk (next+1)∧Chg (fun q i=>q=g∧i=6) w w':=by
 have HIS:=hid (fun w=>isSumS_any dg w)
 rw [decide_eq_true hd] at HIS
 have HLF:=hid (fun w h=>signerLeft_any (B:=B) (g:=g) (b:=b) (t:=t) (seed:=seed) (pk:=pk) (next:=next) w h)
 have HS:=hid h
 have HL:=hid hL
 have hP8:2 ^ t≤256:=Nat.pow_le_pow_right (n:=2) (by decide) h.height
 have hB:=h.bits
 have hs:=h.size
 have HKS:=hid (fun w hL=>keySeed_ok seed hs next (by omega) w hL)
 have HSG:Hid (∀(u:ByteArray),u.size=32→ ∀w,Laid w→Calls Tryz.prog 184 #[.agg #[.int .i64 (b:Int),.int .i64 32],.string u,.string dg] w fun e w'=> ∃(g L:Nat) (vs:List ByteArray),e= .returned (.tuple #[.slice (some ⟨g,0,none⟩) L L,.int .i64 0])∧vs.length=L∧vs.map nb=sign (nb u) (One.digits b (nb dg))∧StrsAt w' (some ⟨g,0,none⟩) vs∧Below w.heap.size w w'):=hid (fun u hu w hL=>by
  have h1:=sign_ok b dg hB (by omega) (by omega) u hu w hL
  rw [hd] at h1
  refine h1.mono ?_
  rintro e w' ⟨g,L,vs,e1,e2,_,e4,e5,_,e7⟩
  exact ⟨g,L,vs,e1,e2,e4,e5,e7⟩)
 have HPA:Hid (∀w gt ls,TreeOf ls (sigLeaves b (nb seed) (2 ^ t))→TreeAt w B gt ls→Calls Tryz.prog 185 #[.pointer (some ⟨gt,0,none⟩),.int .i64 (next:Int),.int .i64 ((2 ^ t:Nat):Int)] w fun e w'=> ∃(v:Value) (n:Nat) (vs:List ByteArray),e= .returned (.tuple #[v,.int .i64 0])∧n=t∧vs.map nb=sigPath b (nb seed) t next∧w'.ownsRow w.heap.size 9 1 v n (strV vs)∧(∀s ∈ vs,s.size=32)∧Below w.heap.size w w'):=hid (fun w gt ls hO hT=>treePath_ok B gt ls _ hO (sigLeaves_32 _ _ _) t h.height (sigLeaves_len _ _ _) _ rfl next hn w hT)
 have hleft:((2 ^ t - next:Nat):Int)≠0:=by
  obtain ⟨q,hq⟩:=ex_eq (2 ^ t)
  rw [hq] at hn ⊢
  omega
 have HNE:Hid ((((2 ^ t - next:Nat):Int)==0)=false):=hid (by rw [beq_eq_false_iff_ne];exact hleft)
 have hn9:next≤255:=by omega
 have HNX:Hid (∀V,SignerAt V B g b t seed pk next→SignerAt (V.setCell ⟨g,6,none⟩ (.int .i64 ((next:Int)+1))) B g b t seed pk (next+1)):=hid (fun V hV=>by
  have h1:=hV.set (next+1) hn
  rwa [Int.natCast_add] at h1)
 obtain ⟨P,hP⟩:=ex_eq (2 ^ t)
 have HP:=hid hP
 obtain ⟨D,hD⟩:=ex_eq (2 ^ t - next)
 rw [hD] at HLF HNE
 have hDn:=HNE.o
 clear hd h hL hP8 hB hs hleft hn hP hD
 go_enter Tryz.func91,Tryz.ntmps91
 go_upto_region 1 with fail
 refine wp_over (fun W=>Hid (W.heap[w.heap.size]? =some (.cells #[.int .i64 0,.slice none 0 0,.slice none 0 0] 45 (0,0)))∧Hid (Below w.heap.size w W)∧Hid (W.heap.size=w.heap.size+1)) ⟨heap_alloc_new _ _,(Below.refl _ _).alloc (Nat.le_refl _) _,by show _=_;simp⟩ ?_
 rintro w1 ⟨HR1,HB1,HW1⟩
 obtain ⟨N,hN⟩:=ex_eq w.heap.size
 rw [hN] at HR1 HB1 HW1 ⊢
 have HN:=hid hN
 clear hN
 have HST:Hid (∀V V',Below (N+1) w1 V→Below V.heap.size V V'→Below (N+1) w1 V'):=hid (fun V V' h h'=>h.trans (h'.mono (by have:=h.size;have:=HW1.o;omega)))
 have HAL:Hid (∀V,Below (N+1) w1 V→Laid V∧SignerAt V B g b t seed pk next∧V.heap[N]? =some (.cells #[.int .i64 0,.slice none 0 0,.slice none 0 0] 45 (0,0))):=hid (fun V hV=>by
  have h1:Below w.heap.size w V:=by rw [HN.o];exact HB1.o.trans (hV.mono (Nat.le_succ N))
  exact ⟨HL.o.later h1 (Nat.le_refl _),HS.o.later h1,(hV.block N (Nat.lt_succ_self N)).trans HR1.o⟩)
 go_upto_region 5 with (first
  | (go_at_call 77
     (refine (HIS.o _).mono ?_)
     rintro e w3 ⟨rfl,rfl⟩)
  | (go_at_call 74
     (refine (HLF.o _ (HAL.o _ (Below.refl _ _)).2.1).mono ?_)
     rintro e w4 ⟨rfl,h4⟩
     have H4:=hid (HST.o _ _ (Below.refl _ _) h4)
     clear h4))
 clear hDn
 obtain ⟨gt,ls,hR,hT,hO⟩:=HS.o.ex
 have HO:=hid hO
 rw [HP.o] at hR
 have HR:=hid hR
 have HT:=hid hT
 have HRW:Hid (∀V,Below (N+1) w1 V→V.heap[g]? =some (.cells (signerRow b seed gt pk P next) 144 (0,0))∧TreeAt V B gt ls):=hid (fun V hV=>by
  have h1:Below w.heap.size w V:=by rw [HN.o];exact HB1.o.trans (hV.mono (Nat.le_succ N))
  exact ⟨(h1.block g (gS HR.o).1).trans HR.o,HT.o.later h1⟩)
 clear hR hT hO
 obtain ⟨k0,k1,k2,k3,k4,k5,k6⟩:=row_cells (HRW.o _ H4.o).1
 have HSC:Hid (∀V,Below (N+1) w1 V→V.cell? ⟨g,2,none⟩=some (.string seed)∧V.cell? ⟨g,6,none⟩=some (.int .i64 (next:Int))∧V.cell? ⟨g,3,none⟩=some (.pointer (some ⟨gt,0,none⟩))∧V.cell? ⟨g,5,none⟩=some (.int .i64 (P:Int))):=hid (fun V hV=>by
  obtain ⟨k0,k1,k2,k3,k4,k5,k6⟩:=row_cells (HRW.o V hV).1
  exact ⟨k2,k6,k3,k5⟩)
 refine Kit.wp_region_gplan (fun V=>V.cell? ⟨g,2,none⟩=some (.string seed)∧V.cell? ⟨g,6,none⟩=some (.int .i64 (next:Int))∧V.cell? ⟨g,3,none⟩=some (.pointer (some ⟨gt,0,none⟩))∧V.cell? ⟨g,5,none⟩=some (.int .i64 (P:Int))) [(true,0),(true,1),(true,2),(true,3),(true,4),(true,5),(true,6),(true,7),(false,8),(true,9),(true,10),(true,11),(true,12),(true,13)] (by kernel_rfl) (by kernel_rfl) (by kernel_rfl) (by kernel_rfl) (HSC.o _ H4.o.drew) ?_
 iterate 8 (refine Kit.ghd (h:=?_))
 clear k0 k1 k2 k3 k4 k5 k6
 refine Kit.gplan_op (by rfl) (by rfl) fun K hK=> ?_
 go_simp
 go_at_call 80
 refine (HKS.o _ (HAL.o _ H4.o).1.drew).mono ?_
 rintro e w5 ⟨u5,rfl,hu5,hz5,h5⟩
 have HU5:=hid hu5
 have HZ5:=hid hz5
 have H5:=hid (HST.o _ _ H4.o ((Below.refl _ w4).drew.trans h5))
 clear hu5 hz5 h5
 refine hK _ _ (HSC.o _ H5.o) ?_
 clear hK K
 iterate 5 (refine Kit.ghd (h:=?_))
 refine Kit.gdn (h:=?_)
 obtain ⟨k0,k1,k2,k3,k4,k5,k6⟩:=row_cells (HRW.o _ H5.o).1
 go_upto_region 7 with (first
  | (go_at_call 184
     (refine (HSG.o u5 HZ5.o _ (HAL.o _ H5.o).1).mono ?_)
     rintro e w6 ⟨g6,L6,ps,rfl,hl6,hm6,hS6,h6⟩
     have HL6:=hid hl6
     have HM6:=hid hm6
     have HS6:=hid hS6
     have H6:=hid (HST.o _ _ H5.o h6)
     clear hl6 hm6 hS6 h6 k0 k1 k2 k3 k4 k5 k6))
 have HPA6:=hid (fun w=>HPA.o w gt ls HO.o)
 rw [HP.o] at HPA6
 refine Kit.wp_region_gplan (fun V=>V.cell? ⟨g,2,none⟩=some (.string seed)∧V.cell? ⟨g,6,none⟩=some (.int .i64 (next:Int))∧V.cell? ⟨g,3,none⟩=some (.pointer (some ⟨gt,0,none⟩))∧V.cell? ⟨g,5,none⟩=some (.int .i64 (P:Int))) [(true,0),(true,1),(true,2),(true,3),(true,4),(true,5),(true,6),(true,7),(true,8),(true,9),(true,10),(true,11),(false,12),(true,13),(true,14),(true,15),(true,16),(true,17)] (by kernel_rfl) (by kernel_rfl) (by kernel_rfl) (by kernel_rfl) (HSC.o _ H6.o.drew) ?_
 iterate 12 (refine Kit.ghd (h:=?_))
 refine Kit.gplan_op (by rfl) (by rfl) fun K hK=> ?_
 go_simp
 go_at_call 185
 refine (HPA6.o _ ((HRW.o _ H6.o).2.later (Below.refl _ w6).drew)).mono ?_
 rintro e w7 ⟨v7,n7,qs,rfl,hn7,hm7,ho7,_,h7⟩
 obtain ⟨a7,cp7,rfl,hl7,_,hS7,_,_⟩:=strs_of_own ho7
 have HL7:=hid hl7
 have HM7:=hid hm7
 have HS7:=hid hS7
 have h7':Below w6.heap.size w6 w7:=(Below.refl _ w6).drew.trans h7
 have HS6b:=hid (HS6.o.later h7')
 have H7:=hid (HST.o _ _ H6.o h7')
 clear hn7 hl7 hm7 hS7 ho7 h7 h7'
 refine hK _ _ (HSC.o _ H7.o) ?_
 clear hK K
 iterate 5 (refine Kit.ghd (h:=?_))
 refine Kit.gdn (h:=?_)
 obtain ⟨k0,k1,k2,k3,k4,k5,k6⟩:=row_cells (HRW.o _ H7.o).1
 go_upto_region 9 with fail
 clear k0 k1 k2 k3 k4 k5 k6
 have hb8:Below w7.heap.size w7 (w7.alloc (.cells #[.int .i64 (next:Int),.slice (some ⟨g6,0,none⟩) L6 L6,.slice a7 n7 cp7] 45)):=(Below.refl _ _).alloc (Nat.le_refl _) _
 refine wp_over (fun W=>Hid (W.heap[w7.heap.size]? =some (.cells #[.int .i64 (next:Int),.slice (some ⟨g6,0,none⟩) L6 L6,.slice a7 n7 cp7] 45 (0,0)))∧Hid (Below w7.heap.size w7 W)) ⟨heap_alloc_new _ _,hb8⟩ ?_
 clear hb8
 rintro w8 ⟨HR8,HB8⟩
 have H8:=hid (HST.o _ _ H7.o HB8.o)
 have HS68:=hid (HS6b.o.later HB8.o)
 have HS78:=hid (HS7.o.later HB8.o)
 obtain ⟨K8,hK8⟩:=ex_eq w7.heap.size
 rw [hK8] at HR8 ⊢
 have hKN:N+1≤K8:=by have:=H7.o.size;have:=HW1.o;omega
 have hgN:g<N:=by have:=HS.o.lt;have:=HN.o;omega
 have HKN:=hid hKN
 have HGN:=hid hgN
 clear hK8 hKN hgN HB8
 obtain ⟨k0,k1,k2,k3,k4,k5,k6⟩:=row_cells (HRW.o _ H8.o).1
 have kf:w8.frozen? ⟨g,6,none⟩=false:=frozen_of_row _ _ _ _ _ (HRW.o _ H8.o).1
 go_upto_region 10 with fail
 clear k0 k1 k2 k3 k4 k5 k6 kf
 have HC8:Hid (Chg (fun q i=>q=g∧i=6) w w8):=hid (Chg.of_below (by rw [HN.o];exact HB1.o.trans (H8.o.mono (Nat.le_succ N))))
 refine wp_over (fun W=>Hid (W.heap[K8]? =some (.cells #[.int .i64 (next:Int),.slice (some ⟨g6,0,none⟩) L6 L6,.slice a7 n7 cp7] 45 (0,0)))∧Hid (W.heap[N]? =some (.cells #[.int .i64 0,.slice none 0 0,.slice none 0 0] 45 (0,0)))∧Hid (SignerAt W B g b t seed pk (next+1))∧Hid (Chg (fun q i=>q=g∧i=6) w W)∧Hid (StrsAt W (some ⟨g6,0,none⟩) ps)∧Hid (StrsAt W a7 qs))
  ⟨(Go.RowKit.Below.heap_setCell _ _ _ _ (by have:=HKN.o;have:=HGN.o;show K8≠g;omega)).trans HR8.o,(Go.RowKit.Below.heap_setCell _ _ _ _ (by have:=HGN.o;show N≠g;omega)).trans (HAL.o _ H8.o).2.2,HNX.o _ (HAL.o _ H8.o).2.1,HC8.o.setCell _ ⟨rfl,rfl⟩,strs_aside HS68.o (HSC.o _ H8.o).2.1,strs_aside HS78.o (HSC.o _ H8.o).2.1⟩ ?_
 rintro w9 ⟨HR9,HN9,HS9,HC9,HP9,HQ9⟩
 have hg9:=HR9.o
 obtain ⟨k0,k1,k2⟩:w9.cell? ⟨K8,0,none⟩=some (.int .i64 (next:Int))∧w9.cell? ⟨K8,1,none⟩=some (.slice (some ⟨g6,0,none⟩) L6 L6)∧w9.cell? ⟨K8,2,none⟩=some (.slice a7 n7 cp7):=
  ⟨cr hg9,cr hg9,cr hg9⟩
 have hn9':=HN9.o
 obtain ⟨j0,j1,j2⟩:w9.cell? ⟨N,0,none⟩=some (.int .i64 0)∧w9.cell? ⟨N,1,none⟩=some (.slice none 0 0)∧w9.cell? ⟨N,2,none⟩=some (.slice none 0 0):=
  ⟨cr hn9',cr hn9',cr hn9'⟩
 have kf: ∀i,w9.frozen? ⟨N,i,none⟩=false:=fun i=>frozen_of_row _ _ _ _ _ hn9'
 clear hg9 hn9'
 go_wp2_with fail
 have HR:=row3 (x0:= .int .i64 (next:Int)) (x1:= .slice (some ⟨g6,0,none⟩) L6 L6) (x2:= .slice a7 n7 cp7) HN9.o
 refine bodyPost_ret (results_cell_row_tmp rfl _ _ N 45 _ (0,0) _ (by rfl) HR Tryz.underlying45 rfl (by kernel_rfl)) rfl ⟨_,ps,qs,rfl,⟨_,_,_,_,_,_,rfl,HL6.o,strs3 HP9.o HN9.o,HL7.o,strs3 HQ9.o HN9.o⟩,by rw [HM6.o,HU5.o];rfl,HM7.o,signer3 HS9.o HN9.o,(chg3 (HC9.o.mono (M':=fun q i=>(q=g∧i=6)∨q=N) (fun _ _ _ h=> .inl h)) (fun _=> .inr rfl)).mono (fun k i hk h=>h.elim id (fun e=>by have:=HN.o;omega))⟩
def SigFits (B H:Int) (dg:List Nat) (idx:Int) (ps qs:List (List Nat)):Prop:=SV B H∧dg.length=32∧0≤idx∧idx<2 ^ H.toNat∧(qs.length:Int)=H∧(∀q ∈ qs,q.length=32)∧ps.length=count B.toNat 32∧(∀p ∈ ps,p.length=32)
instance (B H:Int) (dg:List Nat) (idx:Int) (ps qs:List (List Nat)):Decidable (SigFits B H dg idx ps qs):=by unfold SigFits;infer_instance
def sigRoot (b:Nat) (dg:List Nat) (i:Nat) (ps qs:List (List Nat)):List Nat:=Mrk.climb (Mrk.leaf (recover b (One.digits b dg) ps)) i qs
theorem fit_pow {t:Nat} (ht:t≤8):IntKind.i64.wrap ((2:Int) ^ t)=((2 ^ t:Nat):Int)∧2 ^ t≤256:=by
 have hP8:2 ^ t≤256:=Nat.pow_le_pow_right (n:=2) (by decide) ht
 refine ⟨?_,hP8⟩
 rw [show (2:Int) ^ t=((2 ^ t:Nat):Int) from (Int.natCast_pow 2 t).symm]
 obtain ⟨q,hq⟩:=ex_eq (2 ^ t)
 rw [hq] at hP8 ⊢
 rw [IntKind.wrap_i64];omega
theorem root_scheme (B S:Int) (dg:ByteArray) (idx:Int) (a1:Option Addr) (n1 c1:Nat) (a2:Option Addr) (n2 c2:Nat) (hn1:n1<9223372036854775808) (hn2:n2<9223372036854775808) (hv: ¬SV B S) (w:World):
    Calls Tryz.prog 199 #[.agg #[.int .i64 (B),.int .i64 (S)],.string dg,.agg #[.int .i64 idx,.slice a1 n1 c1,.slice a2 n2 c2]] w fun e w'=>e= .returned (.tuple #[.string ByteArray.empty,.int .i64 1])∧Below w.heap.size w w':=by
 have HV:=hid (fun w=>schemeValid_any B S w)
 rw [decide_eq_false hv] at HV
 clear hv
 go_enter Tryz.func199,Tryz.ntmps199
 go_upto_region 1 with fail
 refine wp_over (fun W=>Hid (W.heap[w.heap.size]? =some (.cells #[.int .i64 (B),.int .i64 (S)] 23 (0,0)))∧Hid (W.heap[w.heap.size+1]? =some (.cells #[.int .i64 (idx),.slice a1 n1 c1,.slice a2 n2 c2] 45 (0,0)))∧Hid (Below w.heap.size w W)∧Hid (W.heap.size=w.heap.size+2)) ⟨(heap_alloc_old _ _ (by simp)).trans (heap_alloc_new _ _),by have h:=heap_alloc_new (w.alloc (.cells #[.int .i64 (B),.int .i64 (S)] 23)) (.cells #[.int .i64 (idx),.slice a1 n1 c1,.slice a2 n2 c2] 45);rwa [World.size_alloc] at h,((Below.refl _ _).alloc (Nat.le_refl _) _).alloc (by simp) _,by show _=_;simp⟩ ?_
 rintro W ⟨HG,HG2,HB,HWN⟩
 obtain ⟨N,hN⟩:=ex_eq w.heap.size
 rw [hN] at HG HG2 HB HWN ⊢
 have HN:=hid hN
 clear hN
 have HCE:Hid (∀V,Below (N+2) W V→V.cell? ⟨N,0,none⟩=some (.int .i64 (B))∧V.cell? ⟨N,1,none⟩=some (.int .i64 (S))∧V.cell? ⟨N+1,0,none⟩=some (.int .i64 (idx))∧V.cell? ⟨N+1,1,none⟩=some (.slice a1 n1 c1)∧V.cell? ⟨N+1,2,none⟩=some (.slice a2 n2 c2)):=hid (fun V h=>by
  have hg:=(h.block N (by omega)).trans HG.o
  have hg2:=(h.block (N+1) (by omega)).trans HG2.o
  exact ⟨cr hg,cr hg,cr hg2,cr hg2,cr hg2⟩)
 have HST:Hid (∀V V',Below (N+2) W V→Below V.heap.size V V'→Below (N+2) W V'):=hid (fun V V' h h'=>h.trans (h'.mono (by have:=h.size;have:=HWN.o;omega)))
 have HEND:Hid (∀V,Below (N+2) W V→Below w.heap.size w V):=hid (fun V h=>by rw [HN.o];exact HB.o.trans (h.mono (by omega)))
 refine Kit.wp_region_gplan (fun V=>V.cell? ⟨N,0,none⟩=some (.int .i64 (B))∧V.cell? ⟨N,1,none⟩=some (.int .i64 (S))∧V.cell? ⟨N+1,0,none⟩=some (.int .i64 (idx))∧V.cell? ⟨N+1,1,none⟩=some (.slice a1 n1 c1)∧V.cell? ⟨N+1,2,none⟩=some (.slice a2 n2 c2)) [(true,0),(false,1),(true,2),(true,3),(true,4),(true,5),(true,6),(true,7),(true,8),(true,9),(true,10),(true,11),(true,12),(true,13),(true,14),(true,15),(true,16),(true,17),(true,18),(true,19),(true,20),(true,21),(true,22),(true,23),(true,24),(true,25),(true,26),(true,27),(true,28)] (by kernel_rfl) (by kernel_rfl) (by kernel_rfl) (by kernel_rfl) (HCE.o W (Below.refl _ _)) ?_
 iterate 1 (refine Kit.ghd (h:= ?_))
 refine Kit.gplan_op (by rfl) (by rfl) fun K hK=> ?_
 go_simp
 go_at_call 76
 refine (HV.o _).mono ?_
 rintro e w2 ⟨rfl,h2⟩
 have H2:=hid (HST.o _ _ (Below.refl _ _) ((Below.refl _ W).drew.trans h2))
 clear h2
 refine hK _ _ (HCE.o _ H2.o) ?_
 clear hK K
 iterate 27 (refine Kit.ghd (h:= ?_))
 refine Kit.gdn (h:=?_)
 go_wp2_with fail
 go_ret2
 exact ⟨rfl,HEND.o _ H2.o⟩
theorem root_size (b t:Nat) (hsv:SV (b:Int) (t:Int)) (dg:ByteArray) (idx:Int) (a1:Option Addr) (n1 c1:Nat) (a2:Option Addr) (n2 c2:Nat) (hn1:n1<9223372036854775808) (hn2:n2<9223372036854775808) (hd: ¬dg.size=32) (w:World):
    Calls Tryz.prog 199 #[.agg #[.int .i64 (b:Int),.int .i64 (t:Int)],.string dg,.agg #[.int .i64 idx,.slice a1 n1 c1,.slice a2 n2 c2]] w fun e w'=>e= .returned (.tuple #[.string ByteArray.empty,.int .i64 1])∧Below w.heap.size w w':=by
 have hsv:SV (b:Int) (t:Int):=hsv
 have HV:=hid (fun w=>schemeValid_any (b:Int) (t:Int) w)
 rw [decide_eq_true hsv] at HV
 have HIS:=hid (fun w=>isSumS_any dg w)
 rw [decide_eq_false hd] at HIS
 clear hsv hd
 go_enter Tryz.func199,Tryz.ntmps199
 go_upto_region 1 with fail
 refine wp_over (fun W=>Hid (W.heap[w.heap.size]? =some (.cells #[.int .i64 (b:Int),.int .i64 (t:Int)] 23 (0,0)))∧Hid (W.heap[w.heap.size+1]? =some (.cells #[.int .i64 (idx),.slice a1 n1 c1,.slice a2 n2 c2] 45 (0,0)))∧Hid (Below w.heap.size w W)∧Hid (W.heap.size=w.heap.size+2)) ⟨(heap_alloc_old _ _ (by simp)).trans (heap_alloc_new _ _),by have h:=heap_alloc_new (w.alloc (.cells #[.int .i64 (b:Int),.int .i64 (t:Int)] 23)) (.cells #[.int .i64 (idx),.slice a1 n1 c1,.slice a2 n2 c2] 45);rwa [World.size_alloc] at h,((Below.refl _ _).alloc (Nat.le_refl _) _).alloc (by simp) _,by show _=_;simp⟩ ?_
 rintro W ⟨HG,HG2,HB,HWN⟩
 obtain ⟨N,hN⟩:=ex_eq w.heap.size
 rw [hN] at HG HG2 HB HWN ⊢
 have HN:=hid hN
 clear hN
 have HCE:Hid (∀V,Below (N+2) W V→V.cell? ⟨N,0,none⟩=some (.int .i64 (b:Int))∧V.cell? ⟨N,1,none⟩=some (.int .i64 (t:Int))∧V.cell? ⟨N+1,0,none⟩=some (.int .i64 (idx))∧V.cell? ⟨N+1,1,none⟩=some (.slice a1 n1 c1)∧V.cell? ⟨N+1,2,none⟩=some (.slice a2 n2 c2)):=hid (fun V h=>by
  have hg:=(h.block N (by omega)).trans HG.o
  have hg2:=(h.block (N+1) (by omega)).trans HG2.o
  exact ⟨cr hg,cr hg,cr hg2,cr hg2,cr hg2⟩)
 have HST:Hid (∀V V',Below (N+2) W V→Below V.heap.size V V'→Below (N+2) W V'):=hid (fun V V' h h'=>h.trans (h'.mono (by have:=h.size;have:=HWN.o;omega)))
 have HEND:Hid (∀V,Below (N+2) W V→Below w.heap.size w V):=hid (fun V h=>by rw [HN.o];exact HB.o.trans (h.mono (by omega)))
 refine Kit.wp_region_gplan (fun V=>V.cell? ⟨N,0,none⟩=some (.int .i64 (b:Int))∧V.cell? ⟨N,1,none⟩=some (.int .i64 (t:Int))∧V.cell? ⟨N+1,0,none⟩=some (.int .i64 (idx))∧V.cell? ⟨N+1,1,none⟩=some (.slice a1 n1 c1)∧V.cell? ⟨N+1,2,none⟩=some (.slice a2 n2 c2)) [(true,0),(false,1),(true,2),(true,3),(true,4),(false,5),(true,6),(true,7),(true,8),(true,9),(true,10),(true,11),(true,12),(true,13),(true,14),(true,15),(true,16),(true,17),(true,18),(true,19),(true,20),(true,21),(true,22),(true,23),(true,24),(true,25),(true,26),(true,27),(true,28)] (by kernel_rfl) (by kernel_rfl) (by kernel_rfl) (by kernel_rfl) (HCE.o W (Below.refl _ _)) ?_
 iterate 1 (refine Kit.ghd (h:= ?_))
 refine Kit.gplan_op (by rfl) (by rfl) fun K hK=> ?_
 go_simp
 go_at_call 76
 refine (HV.o _).mono ?_
 rintro e w2 ⟨rfl,h2⟩
 have H2:=hid (HST.o _ _ (Below.refl _ _) ((Below.refl _ W).drew.trans h2))
 clear h2
 refine hK _ _ (HCE.o _ H2.o) ?_
 clear hK K
 iterate 3 (refine Kit.ghd (h:= ?_))
 refine Kit.gplan_op (by rfl) (by rfl) fun K hK=> ?_
 go_simp
 go_at_call 77
 refine (HIS.o _).mono ?_
 rintro e w3 ⟨rfl,rfl⟩
 refine hK _ _ (HCE.o _ H2.o) ?_
 clear hK K
 iterate 23 (refine Kit.ghd (h:= ?_))
 refine Kit.gdn (h:=?_)
 go_wp2_with fail
 go_ret2
 exact ⟨rfl,HEND.o _ H2.o⟩
theorem root_neg (b t:Nat) (hsv:SV (b:Int) (t:Int)) (dg:ByteArray) (idx:Int) (a1:Option Addr) (n1 c1:Nat) (a2:Option Addr) (n2 c2:Nat) (hn1:n1<9223372036854775808) (hn2:n2<9223372036854775808) (hd:dg.size=32) (hi:idx<0) (w:World):
    Calls Tryz.prog 199 #[.agg #[.int .i64 (b:Int),.int .i64 (t:Int)],.string dg,.agg #[.int .i64 idx,.slice a1 n1 c1,.slice a2 n2 c2]] w fun e w'=>e= .returned (.tuple #[.string ByteArray.empty,.int .i64 1])∧Below w.heap.size w w':=by
 have hsv:SV (b:Int) (t:Int):=hsv
 have HV:=hid (fun w=>schemeValid_any (b:Int) (t:Int) w)
 rw [decide_eq_true hsv] at HV
 have HIS:=hid (fun w=>isSumS_any dg w)
 rw [decide_eq_true hd] at HIS
 clear hsv hd
 go_enter Tryz.func199,Tryz.ntmps199
 go_upto_region 1 with fail
 refine wp_over (fun W=>Hid (W.heap[w.heap.size]? =some (.cells #[.int .i64 (b:Int),.int .i64 (t:Int)] 23 (0,0)))∧Hid (W.heap[w.heap.size+1]? =some (.cells #[.int .i64 (idx),.slice a1 n1 c1,.slice a2 n2 c2] 45 (0,0)))∧Hid (Below w.heap.size w W)∧Hid (W.heap.size=w.heap.size+2)) ⟨(heap_alloc_old _ _ (by simp)).trans (heap_alloc_new _ _),by have h:=heap_alloc_new (w.alloc (.cells #[.int .i64 (b:Int),.int .i64 (t:Int)] 23)) (.cells #[.int .i64 (idx),.slice a1 n1 c1,.slice a2 n2 c2] 45);rwa [World.size_alloc] at h,((Below.refl _ _).alloc (Nat.le_refl _) _).alloc (by simp) _,by show _=_;simp⟩ ?_
 rintro W ⟨HG,HG2,HB,HWN⟩
 obtain ⟨N,hN⟩:=ex_eq w.heap.size
 rw [hN] at HG HG2 HB HWN ⊢
 have HN:=hid hN
 clear hN
 have HCE:Hid (∀V,Below (N+2) W V→V.cell? ⟨N,0,none⟩=some (.int .i64 (b:Int))∧V.cell? ⟨N,1,none⟩=some (.int .i64 (t:Int))∧V.cell? ⟨N+1,0,none⟩=some (.int .i64 (idx))∧V.cell? ⟨N+1,1,none⟩=some (.slice a1 n1 c1)∧V.cell? ⟨N+1,2,none⟩=some (.slice a2 n2 c2)):=hid (fun V h=>by
  have hg:=(h.block N (by omega)).trans HG.o
  have hg2:=(h.block (N+1) (by omega)).trans HG2.o
  exact ⟨cr hg,cr hg,cr hg2,cr hg2,cr hg2⟩)
 have HST:Hid (∀V V',Below (N+2) W V→Below V.heap.size V V'→Below (N+2) W V'):=hid (fun V V' h h'=>h.trans (h'.mono (by have:=h.size;have:=HWN.o;omega)))
 have HEND:Hid (∀V,Below (N+2) W V→Below w.heap.size w V):=hid (fun V h=>by rw [HN.o];exact HB.o.trans (h.mono (by omega)))
 refine Kit.wp_region_gplan (fun V=>V.cell? ⟨N,0,none⟩=some (.int .i64 (b:Int))∧V.cell? ⟨N,1,none⟩=some (.int .i64 (t:Int))∧V.cell? ⟨N+1,0,none⟩=some (.int .i64 (idx))∧V.cell? ⟨N+1,1,none⟩=some (.slice a1 n1 c1)∧V.cell? ⟨N+1,2,none⟩=some (.slice a2 n2 c2)) [(true,0),(false,1),(true,2),(true,3),(true,4),(false,5),(true,6),(true,7),(true,8),(true,9),(true,10),(true,11),(true,12),(true,13),(true,14),(true,15),(true,16),(true,17),(true,18),(true,19),(true,20),(true,21),(true,22),(true,23),(true,24),(true,25),(true,26),(true,27),(true,28)] (by kernel_rfl) (by kernel_rfl) (by kernel_rfl) (by kernel_rfl) (HCE.o W (Below.refl _ _)) ?_
 iterate 1 (refine Kit.ghd (h:= ?_))
 refine Kit.gplan_op (by rfl) (by rfl) fun K hK=> ?_
 go_simp
 go_at_call 76
 refine (HV.o _).mono ?_
 rintro e w2 ⟨rfl,h2⟩
 have H2:=hid (HST.o _ _ (Below.refl _ _) ((Below.refl _ W).drew.trans h2))
 clear h2
 refine hK _ _ (HCE.o _ H2.o) ?_
 clear hK K
 iterate 3 (refine Kit.ghd (h:= ?_))
 refine Kit.gplan_op (by rfl) (by rfl) fun K hK=> ?_
 go_simp
 go_at_call 77
 refine (HIS.o _).mono ?_
 rintro e w3 ⟨rfl,rfl⟩
 refine hK _ _ (HCE.o _ H2.o) ?_
 clear hK K
 iterate 23 (refine Kit.ghd (h:= ?_))
 refine Kit.gdn (h:=?_)
 go_wp2_with fail
 go_ret2
 exact ⟨rfl,HEND.o _ H2.o⟩
theorem root_over (b t:Nat) (hsv:SV (b:Int) (t:Int)) (ht:t≤8) (dg:ByteArray) (idx:Int) (a1:Option Addr) (n1 c1:Nat) (a2:Option Addr) (n2 c2:Nat) (hn1:n1<9223372036854775808) (hn2:n2<9223372036854775808) (hd:dg.size=32) (h0:0≤idx) (hi:((2 ^ t:Nat):Int)≤idx) (w:World):
    Calls Tryz.prog 199 #[.agg #[.int .i64 (b:Int),.int .i64 (t:Int)],.string dg,.agg #[.int .i64 idx,.slice a1 n1 c1,.slice a2 n2 c2]] w fun e w'=>e= .returned (.tuple #[.string ByteArray.empty,.int .i64 1])∧Below w.heap.size w w':=by
 have hsv:SV (b:Int) (t:Int):=hsv
 have HV:=hid (fun w=>schemeValid_any (b:Int) (t:Int) w)
 rw [decide_eq_true hsv] at HV
 have HIS:=hid (fun w=>isSumS_any dg w)
 rw [decide_eq_true hd] at HIS
 obtain ⟨hshl,hP8⟩:=fit_pow ht
 obtain ⟨P,hP⟩:=ex_eq (2 ^ t)
 rw [hP] at hshl hP8 hi
 have hin: ¬idx<0:=by omega
 clear hsv hd hP h0
 go_enter Tryz.func199,Tryz.ntmps199
 go_upto_region 1 with fail
 refine wp_over (fun W=>Hid (W.heap[w.heap.size]? =some (.cells #[.int .i64 (b:Int),.int .i64 (t:Int)] 23 (0,0)))∧Hid (W.heap[w.heap.size+1]? =some (.cells #[.int .i64 (idx),.slice a1 n1 c1,.slice a2 n2 c2] 45 (0,0)))∧Hid (Below w.heap.size w W)∧Hid (W.heap.size=w.heap.size+2)) ⟨(heap_alloc_old _ _ (by simp)).trans (heap_alloc_new _ _),by have h:=heap_alloc_new (w.alloc (.cells #[.int .i64 (b:Int),.int .i64 (t:Int)] 23)) (.cells #[.int .i64 (idx),.slice a1 n1 c1,.slice a2 n2 c2] 45);rwa [World.size_alloc] at h,((Below.refl _ _).alloc (Nat.le_refl _) _).alloc (by simp) _,by show _=_;simp⟩ ?_
 rintro W ⟨HG,HG2,HB,HWN⟩
 obtain ⟨N,hN⟩:=ex_eq w.heap.size
 rw [hN] at HG HG2 HB HWN ⊢
 have HN:=hid hN
 clear hN
 have HCE:Hid (∀V,Below (N+2) W V→V.cell? ⟨N,0,none⟩=some (.int .i64 (b:Int))∧V.cell? ⟨N,1,none⟩=some (.int .i64 (t:Int))∧V.cell? ⟨N+1,0,none⟩=some (.int .i64 (idx))∧V.cell? ⟨N+1,1,none⟩=some (.slice a1 n1 c1)∧V.cell? ⟨N+1,2,none⟩=some (.slice a2 n2 c2)):=hid (fun V h=>by
  have hg:=(h.block N (by omega)).trans HG.o
  have hg2:=(h.block (N+1) (by omega)).trans HG2.o
  exact ⟨cr hg,cr hg,cr hg2,cr hg2,cr hg2⟩)
 have HST:Hid (∀V V',Below (N+2) W V→Below V.heap.size V V'→Below (N+2) W V'):=hid (fun V V' h h'=>h.trans (h'.mono (by have:=h.size;have:=HWN.o;omega)))
 have HEND:Hid (∀V,Below (N+2) W V→Below w.heap.size w V):=hid (fun V h=>by rw [HN.o];exact HB.o.trans (h.mono (by omega)))
 refine Kit.wp_region_gplan (fun V=>V.cell? ⟨N,0,none⟩=some (.int .i64 (b:Int))∧V.cell? ⟨N,1,none⟩=some (.int .i64 (t:Int))∧V.cell? ⟨N+1,0,none⟩=some (.int .i64 (idx))∧V.cell? ⟨N+1,1,none⟩=some (.slice a1 n1 c1)∧V.cell? ⟨N+1,2,none⟩=some (.slice a2 n2 c2)) [(true,0),(false,1),(true,2),(true,3),(true,4),(false,5),(true,6),(true,7),(true,8),(true,9),(true,10),(true,11),(true,12),(true,13),(true,14),(true,15),(true,16),(true,17),(true,18),(true,19),(true,20),(true,21),(true,22),(true,23),(true,24),(true,25),(true,26),(true,27),(true,28)] (by kernel_rfl) (by kernel_rfl) (by kernel_rfl) (by kernel_rfl) (HCE.o W (Below.refl _ _)) ?_
 iterate 1 (refine Kit.ghd (h:= ?_))
 refine Kit.gplan_op (by rfl) (by rfl) fun K hK=> ?_
 go_simp
 go_at_call 76
 refine (HV.o _).mono ?_
 rintro e w2 ⟨rfl,h2⟩
 have H2:=hid (HST.o _ _ (Below.refl _ _) ((Below.refl _ W).drew.trans h2))
 clear h2
 refine hK _ _ (HCE.o _ H2.o) ?_
 clear hK K
 iterate 3 (refine Kit.ghd (h:= ?_))
 refine Kit.gplan_op (by rfl) (by rfl) fun K hK=> ?_
 go_simp
 go_at_call 77
 refine (HIS.o _).mono ?_
 rintro e w3 ⟨rfl,rfl⟩
 refine hK _ _ (HCE.o _ H2.o) ?_
 clear hK K
 iterate 23 (refine Kit.ghd (h:= ?_))
 refine Kit.gdn (h:=?_)
 go_wp2_with fail
 go_ret2
 exact ⟨rfl,HEND.o _ H2.o⟩
theorem root_long (b t i:Nat) (hsv:SV (b:Int) (t:Int)) (ht:t≤8) (dg:ByteArray) (idx:Int) (a1:Option Addr) (n1 c1:Nat) (a2:Option Addr) (n2 c2:Nat) (hn1:n1<9223372036854775808) (hn2:n2<9223372036854775808) (hix:idx=(i:Int)) (hd:dg.size=32) (hi:i<2 ^ t) (hq: ¬n2=t) (w:World):
    Calls Tryz.prog 199 #[.agg #[.int .i64 (b:Int),.int .i64 (t:Int)],.string dg,.agg #[.int .i64 idx,.slice a1 n1 c1,.slice a2 n2 c2]] w fun e w'=>e= .returned (.tuple #[.string ByteArray.empty,.int .i64 1])∧Below w.heap.size w w':=by
 subst hix
 have hsv:SV (b:Int) (t:Int):=hsv
 have HV:=hid (fun w=>schemeValid_any (b:Int) (t:Int) w)
 rw [decide_eq_true hsv] at HV
 have HIS:=hid (fun w=>isSumS_any dg w)
 rw [decide_eq_true hd] at HIS
 obtain ⟨hshl,hP8⟩:=fit_pow ht
 obtain ⟨P,hP⟩:=ex_eq (2 ^ t)
 rw [hP] at hshl hP8 hi
 have hin: ¬(i:Int)<0:=by omega
 have hip: ¬(P:Int)≤(i:Int):=by omega
 have hqt:((n2:Int) != (t:Int))=true:=by rw [bne_iff_ne];omega
 clear hsv hd hP hq hi
 go_enter Tryz.func199,Tryz.ntmps199
 go_upto_region 1 with fail
 refine wp_over (fun W=>Hid (W.heap[w.heap.size]? =some (.cells #[.int .i64 (b:Int),.int .i64 (t:Int)] 23 (0,0)))∧Hid (W.heap[w.heap.size+1]? =some (.cells #[.int .i64 (i:Int),.slice a1 n1 c1,.slice a2 n2 c2] 45 (0,0)))∧Hid (Below w.heap.size w W)∧Hid (W.heap.size=w.heap.size+2)) ⟨(heap_alloc_old _ _ (by simp)).trans (heap_alloc_new _ _),by have h:=heap_alloc_new (w.alloc (.cells #[.int .i64 (b:Int),.int .i64 (t:Int)] 23)) (.cells #[.int .i64 (i:Int),.slice a1 n1 c1,.slice a2 n2 c2] 45);rwa [World.size_alloc] at h,((Below.refl _ _).alloc (Nat.le_refl _) _).alloc (by simp) _,by show _=_;simp⟩ ?_
 rintro W ⟨HG,HG2,HB,HWN⟩
 obtain ⟨N,hN⟩:=ex_eq w.heap.size
 rw [hN] at HG HG2 HB HWN ⊢
 have HN:=hid hN
 clear hN
 have HCE:Hid (∀V,Below (N+2) W V→V.cell? ⟨N,0,none⟩=some (.int .i64 (b:Int))∧V.cell? ⟨N,1,none⟩=some (.int .i64 (t:Int))∧V.cell? ⟨N+1,0,none⟩=some (.int .i64 (i:Int))∧V.cell? ⟨N+1,1,none⟩=some (.slice a1 n1 c1)∧V.cell? ⟨N+1,2,none⟩=some (.slice a2 n2 c2)):=hid (fun V h=>by
  have hg:=(h.block N (by omega)).trans HG.o
  have hg2:=(h.block (N+1) (by omega)).trans HG2.o
  exact ⟨cr hg,cr hg,cr hg2,cr hg2,cr hg2⟩)
 have HST:Hid (∀V V',Below (N+2) W V→Below V.heap.size V V'→Below (N+2) W V'):=hid (fun V V' h h'=>h.trans (h'.mono (by have:=h.size;have:=HWN.o;omega)))
 have HEND:Hid (∀V,Below (N+2) W V→Below w.heap.size w V):=hid (fun V h=>by rw [HN.o];exact HB.o.trans (h.mono (by omega)))
 refine Kit.wp_region_gplan (fun V=>V.cell? ⟨N,0,none⟩=some (.int .i64 (b:Int))∧V.cell? ⟨N,1,none⟩=some (.int .i64 (t:Int))∧V.cell? ⟨N+1,0,none⟩=some (.int .i64 (i:Int))∧V.cell? ⟨N+1,1,none⟩=some (.slice a1 n1 c1)∧V.cell? ⟨N+1,2,none⟩=some (.slice a2 n2 c2)) [(true,0),(false,1),(true,2),(true,3),(true,4),(false,5),(true,6),(true,7),(true,8),(true,9),(true,10),(true,11),(true,12),(true,13),(true,14),(true,15),(true,16),(true,17),(true,18),(true,19),(true,20),(true,21),(true,22),(true,23),(true,24),(true,25),(true,26),(true,27),(true,28)] (by kernel_rfl) (by kernel_rfl) (by kernel_rfl) (by kernel_rfl) (HCE.o W (Below.refl _ _)) ?_
 iterate 1 (refine Kit.ghd (h:= ?_))
 refine Kit.gplan_op (by rfl) (by rfl) fun K hK=> ?_
 go_simp
 go_at_call 76
 refine (HV.o _).mono ?_
 rintro e w2 ⟨rfl,h2⟩
 have H2:=hid (HST.o _ _ (Below.refl _ _) ((Below.refl _ W).drew.trans h2))
 clear h2
 refine hK _ _ (HCE.o _ H2.o) ?_
 clear hK K
 iterate 3 (refine Kit.ghd (h:= ?_))
 refine Kit.gplan_op (by rfl) (by rfl) fun K hK=> ?_
 go_simp
 go_at_call 77
 refine (HIS.o _).mono ?_
 rintro e w3 ⟨rfl,rfl⟩
 refine hK _ _ (HCE.o _ H2.o) ?_
 clear hK K
 iterate 23 (refine Kit.ghd (h:= ?_))
 refine Kit.gdn (h:=?_)
 go_wp2_with fail
 go_ret2
 exact ⟨rfl,HEND.o _ H2.o⟩
def SigShape (b n1:Nat) (ps qs:List ByteArray):Prop:=(∀q ∈ qs,q.size=32)∧(n1=count b 32∧ ∀p ∈ ps,p.size=32)
theorem root_run (b t i:Nat) (hB:Bits b) (hb4:b≤4) (ht:t≤8) (dg:ByteArray) (idx:Int) (a1:Option Addr) (n1 c1:Nat) (a2:Option Addr) (n2 c2:Nat) (hn1:n1<9223372036854775808) (hn2:n2<9223372036854775808) (hix:idx=(i:Int)) (hd:dg.size=32) (hi:i<2 ^ t) (hq:n2=t) (ps qs:List ByteArray) (hps:ps.length=n1) (hqs:qs.length=n2) (w:World) (hS1:StrsAt w a1 ps) (hS2:StrsAt w a2 qs) (hL:Laid w):
    Calls Tryz.prog 199 #[.agg #[.int .i64 (b:Int),.int .i64 (t:Int)],.string dg,.agg #[.int .i64 idx,.slice a1 n1 c1,.slice a2 n2 c2]] w fun e w'=>(SigShape b n1 ps qs∧ ∃u:ByteArray,e= .returned (.tuple #[.string u,.int .i64 0])∧nb u=sigRoot b (nb dg) i (ps.map nb) (qs.map nb)∧u.size=32∧Below w.heap.size w w')∨(¬SigShape b n1 ps qs∧e= .returned (.tuple #[.string ByteArray.empty,.int .i64 1])∧Below w.heap.size w w'):=by
 subst hix
 have hsv:SV (b:Int) (t:Int):=⟨by rcases hB with rfl | rfl | rfl | rfl<;> first | omega | simp,by omega,by omega⟩
 have hsv:SV (b:Int) (t:Int):=hsv
 have HV:=hid (fun w=>schemeValid_any (b:Int) (t:Int) w)
 rw [decide_eq_true hsv] at HV
 have HIS:=hid (fun w=>isSumS_any dg w)
 rw [decide_eq_true hd] at HIS
 obtain ⟨hshl,hP8⟩:=fit_pow ht
 obtain ⟨P,hP⟩:=ex_eq (2 ^ t)
 rw [hP] at hshl hP8 hi
 have hin: ¬(i:Int)<0:=by omega
 have hip: ¬(P:Int)≤(i:Int):=by omega
 have hqt:((n2:Int) != (t:Int))=false:=by rw [hq];simp
 have hn28:n2≤8:=by omega
 have HS1:=hid hS1
 have HS2:=hid hS2
 have HL:=hid hL
 have HPS:=hid hps
 have HQS:=hid hqs
 have HD:=hid hd
 have HIP:=hid hi
 clear hsv hP hq hi hS1 hS2 hL hps hqs
 go_enter Tryz.func199,Tryz.ntmps199
 go_upto_region 1 with fail
 refine wp_over (fun W=>Hid (W.heap[w.heap.size]? =some (.cells #[.int .i64 (b:Int),.int .i64 (t:Int)] 23 (0,0)))∧Hid (W.heap[w.heap.size+1]? =some (.cells #[.int .i64 (i:Int),.slice a1 n1 c1,.slice a2 n2 c2] 45 (0,0)))∧Hid (Below w.heap.size w W)∧Hid (W.heap.size=w.heap.size+2)) ⟨(heap_alloc_old _ _ (by simp)).trans (heap_alloc_new _ _),by have h:=heap_alloc_new (w.alloc (.cells #[.int .i64 (b:Int),.int .i64 (t:Int)] 23)) (.cells #[.int .i64 (i:Int),.slice a1 n1 c1,.slice a2 n2 c2] 45);rwa [World.size_alloc] at h,((Below.refl _ _).alloc (Nat.le_refl _) _).alloc (by simp) _,by show _=_;simp⟩ ?_
 rintro W ⟨HG,HG2,HB,HWN⟩
 obtain ⟨N,hN⟩:=ex_eq w.heap.size
 rw [hN] at HG HG2 HB HWN ⊢
 have HN:=hid hN
 clear hN
 have HCE:Hid (∀V,Below (N+2) W V→V.cell? ⟨N,0,none⟩=some (.int .i64 (b:Int))∧V.cell? ⟨N,1,none⟩=some (.int .i64 (t:Int))∧V.cell? ⟨N+1,0,none⟩=some (.int .i64 (i:Int))∧V.cell? ⟨N+1,1,none⟩=some (.slice a1 n1 c1)∧V.cell? ⟨N+1,2,none⟩=some (.slice a2 n2 c2)):=hid (fun V h=>by
  have hg:=(h.block N (by omega)).trans HG.o
  have hg2:=(h.block (N+1) (by omega)).trans HG2.o
  exact ⟨cr hg,cr hg,cr hg2,cr hg2,cr hg2⟩)
 have HST:Hid (∀V V',Below (N+2) W V→Below V.heap.size V V'→Below (N+2) W V'):=hid (fun V V' h h'=>h.trans (h'.mono (by have:=h.size;have:=HWN.o;omega)))
 have HEND:Hid (∀V,Below (N+2) W V→Below w.heap.size w V):=hid (fun V h=>by rw [HN.o];exact HB.o.trans (h.mono (by omega)))
 have HLD:Hid (∀V,Below (N+2) W V→Laid V):=hid (fun V h=>HL.o.later (HEND.o V h) (Nat.le_refl _))
 have HA1:Hid (∀V,Below (N+2) W V→StrsAt V a1 ps):=hid (fun V h=>HS1.o.later (HEND.o V h))
 have HA2:Hid (∀V,Below (N+2) W V→StrsAt V a2 qs):=hid (fun V h=>HS2.o.later (HEND.o V h))
 refine Kit.wp_region_gplan (fun V=>V.cell? ⟨N,0,none⟩=some (.int .i64 (b:Int))∧V.cell? ⟨N,1,none⟩=some (.int .i64 (t:Int))∧V.cell? ⟨N+1,0,none⟩=some (.int .i64 (i:Int))∧V.cell? ⟨N+1,1,none⟩=some (.slice a1 n1 c1)∧V.cell? ⟨N+1,2,none⟩=some (.slice a2 n2 c2)) [(true,0),(false,1),(true,2),(true,3),(true,4),(false,5),(true,6),(true,7),(true,8),(true,9),(true,10),(true,11),(true,12),(true,13),(true,14),(true,15),(true,16),(true,17),(true,18),(true,19),(true,20),(true,21),(true,22),(true,23),(true,24),(true,25),(true,26),(true,27),(true,28)] (by kernel_rfl) (by kernel_rfl) (by kernel_rfl) (by kernel_rfl) (HCE.o W (Below.refl _ _)) ?_
 iterate 1 (refine Kit.ghd (h:= ?_))
 refine Kit.gplan_op (by rfl) (by rfl) fun K hK=> ?_
 go_simp
 go_at_call 76
 refine (HV.o _).mono ?_
 rintro e w2 ⟨rfl,h2⟩
 have H2:=hid (HST.o _ _ (Below.refl _ _) ((Below.refl _ W).drew.trans h2))
 clear h2
 refine hK _ _ (HCE.o _ H2.o) ?_
 clear hK K
 iterate 3 (refine Kit.ghd (h:= ?_))
 refine Kit.gplan_op (by rfl) (by rfl) fun K hK=> ?_
 go_simp
 go_at_call 77
 refine (HIS.o _).mono ?_
 rintro e w3 ⟨rfl,rfl⟩
 refine hK _ _ (HCE.o _ H2.o) ?_
 clear hK K
 iterate 23 (refine Kit.ghd (h:= ?_))
 refine Kit.gdn (h:=?_)
 obtain ⟨c0,c1',c2',c3,c4⟩:=HCE.o w2 H2.o
 go_upto_region 4 with fail
 clear c0 c1' c2' c3 c4
 go_loopw [47] (fun kv wr=> ∃k:Nat,k≤n2∧kv= .int .i64 (k:Int)∧Hid (∀j,j<k→(qs.getD j ByteArray.empty).size=32)∧wr=w2) (fun kv _=>n2 - (intOf kv).toNat)
 case atStart=>exact ⟨0,by omega,rfl,fun j hj=>by omega,rfl⟩
 case round=>
  obtain ⟨k,hk,rfl,H32,rfl⟩:=hrel
  by_cases hlt:k<n2
  ·have hki:(k:Int)<(n2:Int):=by omega
   obtain ⟨b2,o2,he2,hcs⟩: ∃b o,a2=some ⟨b,o,none⟩∧ ∀j,j<qs.length→wr.cell? ⟨b,o+j,none⟩=some (.string (qs.getD j ByteArray.empty)):=by
    rcases HA2.o wr H2.o with h | h
    ·have:=HQS.o;rw [h] at this;simp at this;omega
    ·exact h
   subst he2
   have hc:=hcs k (by rw [HQS.o];exact hlt)
   have HQM:Hid (qs.getD k ByteArray.empty ∈ qs):=hid (getD_mem qs k _ (by rw [HQS.o];exact hlt))
   obtain ⟨q,hqe⟩:=ex_eq (qs.getD k ByteArray.empty)
   rw [hqe] at hc HQM
   have HQE:=hid hqe
   clear hcs hqe
   by_cases h32:q.size=32
   ·have HIQ:=hid (fun w=>isSumS_any q w)
    rw [decide_eq_true h32] at HIQ
    have HH:=hid h32
    clear h32
    go_wp2_with (first
     | (go_at_call 77
        (refine (HIQ.o _).mono ?_)
        rintro e w4 ⟨rfl,rfl⟩))
    go_roundw
    case rel=>
     refine ⟨k+1,hlt,by go_num,fun j hj=> ?_,trivial⟩
     by_cases e:j=k
     ·rw [e,HQE.o];exact HH.o
     ·exact H32.o j (by omega)
    case measure=>simp [intOf];omega
   ·have HIQ:=hid (fun w=>isSumS_any q w)
    rw [decide_eq_false h32] at HIQ
    have HF:=hid (fun (h:SigShape b n1 ps qs)=>h32 (h.1 q HQM.o))
    clear h32
    go_wp2_with (first
     | (go_at_call 77
        (refine (HIQ.o _).mono ?_)
        rintro e w4 ⟨rfl,rfl⟩))
    go_ret2
    exact .inr ⟨HF.o,rfl,HEND.o _ H2.o⟩
  ·have hki: ¬(k:Int)<(n2:Int):=by omega
   have hke:k=n2:=by omega
   have HQ32:Hid (∀q ∈ qs,q.size=32):=hid (fun q hq=>by
    obtain ⟨j,hj,rfl⟩:=List.mem_iff_getElem.1 hq
    have h1:=H32.o j (by rw [hke,← HQS.o];exact hj)
    rwa [lD,lE hj] at h1)
   clear hke
   go_upto_region 9 with fail
   by_cases hp:n1=count b 32∧ ∀p ∈ ps,p.size=32
   ·have HRC:Hid (∀w,StrsAt w a1 ps→Laid w→Calls Tryz.prog 258 #[.agg #[.int .i64 (b:Int),.int .i64 32],.string dg,.slice a1 n1 c1] w fun e w'=> ∃u:ByteArray,e= .returned (.tuple #[.string u,.int .i64 0])∧nb u=recover b (One.digits b (nb dg)) (ps.map nb)∧Below w.heap.size w w'):=hid (fun w hS hL=>by
       have h:=recover_ok b dg hB (by rw [HD.o];decide) (by rw [HD.o];decide) a1 c1 n1 ps HPS.o (by rw [HD.o];exact hp.1) hp.2 w hS hL
       rw [HD.o] at h
       exact h)
    have HPP:=hid hp
    clear hp
    refine Kit.wp_region_gplan (fun V=>V.cell? ⟨N,0,none⟩=some (.int .i64 (b:Int))∧V.cell? ⟨N,1,none⟩=some (.int .i64 (t:Int))∧V.cell? ⟨N+1,0,none⟩=some (.int .i64 (i:Int))∧V.cell? ⟨N+1,1,none⟩=some (.slice a1 n1 c1)∧V.cell? ⟨N+1,2,none⟩=some (.slice a2 n2 c2)) [(true,0),(true,2),(true,3),(true,4),(false,1),(false,5),(true,6),(true,7),(true,8),(true,9),(true,10)] (by kernel_rfl) (by kernel_rfl) (by kernel_rfl) (by kernel_rfl) (HCE.o _ H2.o.drew) ?_
    iterate 4 (refine Kit.ghd (h:= ?_))
    refine Kit.gplan_op (by rfl) (by rfl) fun K hK=> ?_
    go_simp
    go_at_call 78
    refine (paramsOf_any (b:Int) (t:Int) _).mono ?_
    rintro e w3 ⟨rfl,h3⟩
    have H3:=hid (HST.o _ _ H2.o.drew h3)
    clear h3
    refine hK _ _ (HCE.o _ H3.o) ?_
    clear hK K
    refine Kit.gplan_op (by rfl) (by rfl) fun K hK=> ?_
    go_simp
    go_at_call 258
    refine (HRC.o _ (HA1.o _ H3.o) (HLD.o _ H3.o)).mono ?_
    rintro e w4 ⟨u4,rfl,hu4,h4⟩
    have HU4:=hid hu4
    have H4:=hid (HST.o _ _ H3.o h4)
    clear hu4 h4
    refine hK _ _ (HCE.o _ H4.o) ?_
    clear hK K
    iterate 5 (refine Kit.ghd (h:= ?_))
    refine Kit.gdn (h:=?_)
    have HSH:Hid (SigShape b n1 ps qs):=hid ⟨HQ32.o,HPP.o⟩
    have hz4:u4.size=32:=by rw [← nb_length,HU4.o];exact Sha.sum_length _
    obtain ⟨cp5,w5,hcv5,hle5,hB5,h5⟩:=str_at w4 u4 (by rw [hz4];decide) hz4
    obtain ⟨K5,hK5⟩:=ex_eq w4.heap.size
    rw [hK5] at hcv5 hB5
    have H5:=hid (HST.o _ _ H4.o h5)
    have hbk5:K5<w5.heap.size:=by
     obtain ⟨b',o',he,hcs⟩:=BytesAt.some hB5 (by rw [nb_length,hz4];omega)
     cases he
     exact World.block_lt_of_cell? w5 _ (hcs 0 (by rw [nb_length,hz4];omega))
    have HLF:=hid (leaf_l K5 0 cp5 (nb u4) 32 (by rw [nb_length];exact hz4) hle5 (by omega) w5 hB5 hbk5 (HLD.o _ H5.o) (Mrk.leaf (recover b (One.digits b (nb dg)) (ps.map nb))) (by rw [HU4.o]))
    clear hle5 hB5 h5 hbk5 hK5
    go_upto_region 13 with (first
     | (go_at_call 83
        (with_reducible refine HLF.o.mono ?_)
        rintro e w6 ⟨u6,rfl,hu6,hz6,h6⟩
        have HU6:=hid hu6
        have HZ6:=hid hz6
        have H6:=hid (HST.o _ _ H5.o h6)
        clear hu6 hz6 h6))
    clear hcv5
    obtain ⟨c0,c1',c2',c3,c4⟩:=HCE.o w6 H6.o
    go_upto_region 14 with fail
    clear c0 c1' c2' c3 c4
    obtain ⟨LF,hLF⟩:=ex_eq (Mrk.leaf (recover b (One.digits b (nb dg)) (ps.map nb)))
    rw [hLF] at HU6
    have HLFE:=hid hLF
    clear hLF
    go_loopw [12,73] (fun rv kv wr=> ∃(k:Nat) (r:ByteArray),k≤n2∧kv= .int .i64 (k:Int)∧rv= .string r∧r.size=32∧Hid (nb r=Mrk.climb LF i ((qs.map nb).take k))∧Hid (Below (N+2) W wr)) (fun _ kv _=>n2 - (intOf kv).toNat)
    case atStart=>exact ⟨0,u6,by omega,rfl,rfl,HZ6.o,HU6.o,H6.o⟩
    case round=>
     obtain ⟨k,r,hk,rfl,rfl,hr32,HR,HBE⟩:=hrel
     by_cases hlt:k<n2
     ·have hki:(k:Int)<(n2:Int):=by omega
      have hk8:k≤8:=by omega
      obtain ⟨b2,o2,he2,hcs⟩: ∃b o,a2=some ⟨b,o,none⟩∧ ∀j,j<qs.length→wr.cell? ⟨b,o+j,none⟩=some (.string (qs.getD j ByteArray.empty)):=by
       rcases HA2.o wr HBE.o with h | h
       ·have:=HQS.o;rw [h] at this;simp at this;omega
       ·exact h
      subst he2
      have hc:=hcs k (by rw [HQS.o];exact hlt)
      have hq32:=HQ32.o _ (getD_mem qs k ByteArray.empty (by rw [HQS.o];exact hlt))
      have HTS:Hid ((qs.map nb).take (k+1)=(qs.map nb).take k++[nb (qs.getD k ByteArray.empty)]):=hid (by
       rw [List.take_add_one,List.getElem?_map,lE (by rw [HQS.o];exact hlt),lD,lE (by rw [HQS.o];exact hlt)]
       rfl)
      have HTL:Hid (((qs.map nb).take k).length=k):=hid (by rw [List.length_take,List.length_map,HQS.o];omega)
      obtain ⟨q,hqe⟩:=ex_eq (qs.getD k ByteArray.empty)
      rw [hqe] at hc hq32 HTS
      clear hcs hqe
      obtain ⟨c0,c1',c2',c3,c4⟩:=HCE.o wr HBE.o
      obtain ⟨M,hM⟩:=ex_eq (i/2 ^ k)
      have hsh:(i:Int)/(2:Int) ^ k=(M:Int):=by
       rw [show (2:Int) ^ k=((2 ^ k:Nat):Int) from (Int.natCast_pow 2 k).symm,← Int.natCast_ediv,hM]
      have hand:=and_one M (by have h1:=Nat.div_le_self i (2 ^ k);have h2:=HIP.o;omega)
      have HM:=hid hM
      clear hM
      by_cases hodd:M % 2=0
      ·have hm0:bits .and .i64 (M:Int) 1=0:=by rw [hand,hodd];rfl
       have HN1:=hid (fun w hL=>node_l r q hr32 hq32 (Mrk.climb LF i ((qs.map nb).take (k+1))) (by
        rw [HTS.o,Mrk.climb_snoc,HTL.o,HM.o,← HR.o]
        unfold Mrk.step
        rw [if_pos hodd]) w hL)
       clear hand hodd
       go_wp2_with (first
        | (go_at_call 177
           (refine (HN1.o _ (HLD.o _ HBE.o)).mono ?_)
           rintro e w8 ⟨u8,rfl,hu8,hz8,h8⟩
           have HU8:=hid hu8
           have HZ8:=hid hz8
           have H8:=hid (HST.o _ _ HBE.o h8)
           clear hu8 hz8 h8))
       go_roundw
       case rel=>exact ⟨k+1,u8,hlt,by go_num,rfl,HZ8.o,HU8.o,H8.o⟩
       case measure=>simp [intOf];omega
      ·have hodd1:M % 2=1:=by omega
       have hm0:bits .and .i64 (M:Int) 1=1:=by rw [hand,hodd1];rfl
       have HN1:=hid (fun w hL=>node_l q r hq32 hr32 (Mrk.climb LF i ((qs.map nb).take (k+1))) (by
        rw [HTS.o,Mrk.climb_snoc,HTL.o,HM.o,← HR.o]
        unfold Mrk.step
        rw [if_neg hodd]) w hL)
       clear hand hodd hodd1
       go_wp2_with (first
        | (go_at_call 177
           (refine (HN1.o _ (HLD.o _ HBE.o)).mono ?_)
           rintro e w8 ⟨u8,rfl,hu8,hz8,h8⟩
           have HU8:=hid hu8
           have HZ8:=hid hz8
           have H8:=hid (HST.o _ _ HBE.o h8)
           clear hu8 hz8 h8))
       go_roundw
       case rel=>exact ⟨k+1,u8,hlt,by go_num,rfl,HZ8.o,HU8.o,H8.o⟩
       case measure=>simp [intOf];omega
     ·have hki: ¬(k:Int)<(n2:Int):=by omega
      have hke:k=n2:=by omega
      have HFU:Hid ((qs.map nb).take k=qs.map nb):=hid (List.take_of_length_le (by rw [List.length_map,HQS.o];omega))
      have HR32:=hid hr32
      clear hke
      go_wp2_with fail
      go_ret2
      exact .inl ⟨HSH.o,r,rfl,by rw [HR.o,HFU.o,← HLFE.o];rfl,HR32.o,HEND.o _ HBE.o⟩
   ·have HRC:Hid (∀w,StrsAt w a1 ps→Laid w→Calls Tryz.prog 258 #[.agg #[.int .i64 (b:Int),.int .i64 32],.string dg,.slice a1 n1 c1] w fun e w'=>e= .returned (.tuple #[.string ByteArray.empty,.int .i64 1])∧Below w.heap.size w w'):=hid (fun w hS hL=>by
       by_cases hc:n1=count b 32
       ·have h:=recover_part b dg hB (by rw [HD.o];decide) (by rw [HD.o];decide) a1 c1 n1 ps HPS.o (by rw [HD.o];exact hc) (fun h=>hp ⟨hc,h⟩) w hS hL
        rw [HD.o] at h
        exact h
       ·exact recover_bad (b:Int) 32 dg a1 c1 n1 hn1 (fun h=>hc (by have:=h.2.2;rwa [Int.toNat_natCast,HD.o] at this)) w)
    have HF:=hid (fun (h:SigShape b n1 ps qs)=>hp h.2)
    clear hp
    refine Kit.wp_region_gplan (fun V=>V.cell? ⟨N,0,none⟩=some (.int .i64 (b:Int))∧V.cell? ⟨N,1,none⟩=some (.int .i64 (t:Int))∧V.cell? ⟨N+1,0,none⟩=some (.int .i64 (i:Int))∧V.cell? ⟨N+1,1,none⟩=some (.slice a1 n1 c1)∧V.cell? ⟨N+1,2,none⟩=some (.slice a2 n2 c2)) [(true,0),(true,2),(true,3),(true,4),(false,1),(false,5),(true,6),(true,7),(true,8),(true,9),(true,10)] (by kernel_rfl) (by kernel_rfl) (by kernel_rfl) (by kernel_rfl) (HCE.o _ H2.o.drew) ?_
    iterate 4 (refine Kit.ghd (h:= ?_))
    refine Kit.gplan_op (by rfl) (by rfl) fun K hK=> ?_
    go_simp
    go_at_call 78
    refine (paramsOf_any (b:Int) (t:Int) _).mono ?_
    rintro e w3 ⟨rfl,h3⟩
    have H3:=hid (HST.o _ _ H2.o.drew h3)
    clear h3
    refine hK _ _ (HCE.o _ H3.o) ?_
    clear hK K
    refine Kit.gplan_op (by rfl) (by rfl) fun K hK=> ?_
    go_simp
    go_at_call 258
    refine (HRC.o _ (HA1.o _ H3.o) (HLD.o _ H3.o)).mono ?_
    rintro e w4 ⟨rfl,h4⟩
    have H4:=hid (HST.o _ _ H3.o h4)
    clear h4
    refine hK _ _ (HCE.o _ H4.o) ?_
    clear hK K
    iterate 5 (refine Kit.ghd (h:= ?_))
    refine Kit.gdn (h:=?_)
    go_wp2_with fail
    go_ret2
    exact .inr ⟨HF.o,rfl,HEND.o _ H4.o⟩
theorem shape_nb {b n1:Nat} {ps qs:List ByteArray} (h:SigShape b n1 ps qs) (hl:ps.length=n1):(∀q ∈ qs.map nb,q.length=32)∧(ps.map nb).length=count b 32∧ ∀p ∈ ps.map nb,p.length=32:=by
 refine ⟨fun q hq=> ?_,by rw [List.length_map,hl];exact h.2.1,fun p hp=> ?_⟩
 ·obtain ⟨s,hs,rfl⟩:=List.mem_map.1 hq
  rw [nb_length];exact h.1 s hs
 ·obtain ⟨s,hs,rfl⟩:=List.mem_map.1 hp
  rw [nb_length];exact h.2.2 s hs
theorem nb_shape {b n1:Nat} {ps qs:List ByteArray} (h1: ∀q ∈ qs.map nb,q.length=32) (h2:(ps.map nb).length=count b 32) (h3: ∀p ∈ ps.map nb,p.length=32) (hl:ps.length=n1):SigShape b n1 ps qs:=by
 refine ⟨fun q hq=> ?_,by rw [← hl];rwa [List.length_map] at h2,fun p hp=> ?_⟩
 ·rw [← nb_length];exact h1 _ (List.mem_map.2 ⟨q,hq,rfl⟩)
 ·rw [← nb_length];exact h3 _ (List.mem_map.2 ⟨p,hp,rfl⟩)
theorem sigRoot_any (B S:Int) (dg:ByteArray) (idx:Int) (x:Value) (ps qs:List ByteArray) (hl1:ps.length<9223372036854775808) (hl2:qs.length<9223372036854775808) (w:World) (hx:SigAt w x idx ps qs) (hL:Laid w):
    Calls Tryz.prog 199 #[.agg #[.int .i64 B,.int .i64 S],.string dg,x] w fun e w'=>Below w.heap.size w w'∧
     ((SigFits B S (nb dg) idx (ps.map nb) (qs.map nb)∧ ∃u:ByteArray,e= .returned (.tuple #[.string u,.int .i64 0])∧nb u=sigRoot B.toNat (nb dg) idx.toNat (ps.map nb) (qs.map nb)∧u.size=32)∨
      (¬SigFits B S (nb dg) idx (ps.map nb) (qs.map nb)∧e= .returned (.tuple #[.string ByteArray.empty,.int .i64 1]))):=by
 obtain ⟨a1,n1,c1,a2,n2,c2,rfl,hps,hS1,hqs,hS2⟩:=hx
 have bad: ∀{e w'},¬SigFits B S (nb dg) idx (ps.map nb) (qs.map nb)→(e=Ending.returned (.tuple #[.string ByteArray.empty,.int .i64 1])∧Below w.heap.size w w')→_:=fun {e w'} hf h=>(⟨h.2,.inr ⟨hf,h.1⟩⟩:Below w.heap.size w w'∧((SigFits B S (nb dg) idx (ps.map nb) (qs.map nb)∧ ∃u:ByteArray,e= .returned (.tuple #[.string u,.int .i64 0])∧nb u=sigRoot B.toNat (nb dg) idx.toNat (ps.map nb) (qs.map nb)∧u.size=32)∨(¬SigFits B S (nb dg) idx (ps.map nb) (qs.map nb)∧e= .returned (.tuple #[.string ByteArray.empty,.int .i64 1]))))
 by_cases hv:SV B S
 ·obtain ⟨b,t,rfl,rfl,hB,hb4,ht⟩:=sv_of hv
  by_cases hd:dg.size=32
  ·by_cases h0:idx<0
   ·exact (root_neg b t hv dg idx a1 n1 c1 a2 n2 c2 (by omega) (by omega) hd h0 w).mono fun e w' h=>bad (fun hf=>by have:=hf.2.2.1;omega) h
   ·by_cases hP:((2 ^ t:Nat):Int)≤idx
    ·refine (root_over b t hv ht dg idx a1 n1 c1 a2 n2 c2 (by omega) (by omega) hd (by omega) hP w).mono fun e w' h=>bad (fun hf=> ?_) h
     have h1:=hf.2.2.2.1
     rw [Int.toNat_natCast,show (2:Int) ^ t=((2 ^ t:Nat):Int) from (Int.natCast_pow 2 t).symm] at h1
     exact absurd (Int.lt_of_lt_of_le h1 hP) (Int.lt_irrefl _)
    ·obtain ⟨i,rfl⟩: ∃i:Nat,idx=(i:Int):=⟨idx.toNat,by omega⟩
     have hi:i<2 ^ t:=by
      obtain ⟨q,hq⟩:=ex_eq (2 ^ t)
      rw [hq] at hP ⊢
      omega
     by_cases hq:n2=t
     ·refine (root_run b t i hB hb4 ht dg (i:Int) a1 n1 c1 a2 n2 c2 (by omega) (by omega) rfl hd hi hq ps qs hps hqs w hS1 hS2 hL).mono fun e w' h=> ?_
      rcases h with ⟨hsh,u,rfl,hu,hz,hb⟩ | ⟨hns,rfl,hb⟩
      ·obtain ⟨s1,s2,s3⟩:=shape_nb hsh hps
       refine ⟨hb,.inl ⟨⟨hv,by rw [nb_length];exact hd,by omega,?_,by rw [List.length_map,hqs,hq],s1,by rw [Int.toNat_natCast];exact s2,s3⟩,u,rfl,by rw [Int.toNat_natCast,Int.toNat_natCast];exact hu,hz⟩⟩
       rw [Int.toNat_natCast,show (2:Int) ^ t=((2 ^ t:Nat):Int) from (Int.natCast_pow 2 t).symm]
       exact Int.ofNat_lt.2 hi
      ·refine ⟨hb,.inr ⟨fun hf=>hns (nb_shape hf.2.2.2.2.2.1 ?_ hf.2.2.2.2.2.2.2 hps),rfl⟩⟩
       have h1:=hf.2.2.2.2.2.2.1
       rwa [Int.toNat_natCast] at h1
     ·refine (root_long b t i hv ht dg (i:Int) a1 n1 c1 a2 n2 c2 (by omega) (by omega) rfl hd hi hq w).mono fun e w' h=>bad (fun hf=> ?_) h
      have h1:=hf.2.2.2.2.1
      rw [List.length_map,hqs] at h1
      omega
  ·exact (root_size b t hv dg idx a1 n1 c1 a2 n2 c2 (by omega) (by omega) hd w).mono fun e w' h=>bad (fun hf=>hd (by have:=hf.2.1;rwa [nb_length] at this)) h
 ·exact (root_scheme B S dg idx a1 n1 c1 a2 n2 c2 (by omega) (by omega) hv w).mono fun e w' h=>bad (fun hf=>hv hf.1) h
def SigAcc (B S:Int) (pk dg:List Nat) (idx:Int) (ps qs:List (List Nat)):Prop:=SigFits B S dg idx ps qs∧sigRoot B.toNat dg idx.toNat ps qs=pk
instance (B S:Int) (pk dg:List Nat) (idx:Int) (ps qs:List (List Nat)):Decidable (SigAcc B S pk dg idx ps qs):=by unfold SigAcc;infer_instance
theorem sigVerify_any (B S:Int) (pk dg:ByteArray) (idx:Int) (x:Value) (ps qs:List ByteArray) (hl1:ps.length<9223372036854775808) (hl2:qs.length<9223372036854775808) (w:World) (hx:SigAt w x idx ps qs) (hL:Laid w):
    Calls Tryz.prog 102 #[.agg #[.int .i64 B,.int .i64 S],.string pk,.string dg,x] w fun e w'=>e= .returned (.bool (decide (SigAcc B S (nb pk) (nb dg) idx (ps.map nb) (qs.map nb))))∧Below w.heap.size w w':=by
 have HRT:=hid (fun w hx hL=>sigRoot_any B S dg idx x ps qs hl1 hl2 w hx hL)
 have HX:=hid hx
 have HL:=hid hL
 obtain ⟨a1,n1,c1,a2,n2,c2,rfl,hps,hS1,hqs,hS2⟩:=hx
 by_cases hF:SigFits B S (nb dg) idx (ps.map nb) (qs.map nb)
 ·have HR2:Hid (∀w,SigAt w (.agg #[.int .i64 idx,.slice a1 n1 c1,.slice a2 n2 c2]) idx ps qs→Laid w→Calls Tryz.prog 199 #[.agg #[.int .i64 B,.int .i64 S],.string dg,.agg #[.int .i64 idx,.slice a1 n1 c1,.slice a2 n2 c2]] w fun e w'=> ∃u:ByteArray,e= .returned (.tuple #[.string u,.int .i64 0])∧nb u=sigRoot B.toNat (nb dg) idx.toNat (ps.map nb) (qs.map nb)∧Below w.heap.size w w'):=hid (fun w hx hL=>(HRT.o w hx hL).mono fun e w' h=>by
     rcases h with ⟨hb,⟨_,u,e1,e2,_⟩ | ⟨hn,_⟩⟩
     ·exact ⟨u,e1,e2,hb⟩
     ·exact absurd hF hn)
  have HD:Hid (∀u:ByteArray,nb u=sigRoot B.toNat (nb dg) idx.toNat (ps.map nb) (qs.map nb)→(u.toList==pk.toList)=decide (SigAcc B S (nb pk) (nb dg) idx (ps.map nb) (qs.map nb))):=hid (fun u hu=>by
   rw [eq_str,decide_eq_decide,hu]
   exact ⟨fun h=>⟨hF,h⟩,fun h=>h.2⟩)
  obtain ⟨D,hDe⟩:=ex_eq (decide (SigAcc B S (nb pk) (nb dg) idx (ps.map nb) (qs.map nb)))
  rw [hDe] at HD ⊢
  clear hF HRT hps hS1 hqs hS2 hL hDe
  go_enter Tryz.func102,Tryz.ntmps102
  go_upto_region 1 with fail
  refine wp_over (fun W=>Hid (W.heap[w.heap.size]? =some (.cells #[.int .i64 B,.int .i64 S] 23 (0,0)))∧Hid (W.heap[w.heap.size+1]? =some (.cells #[.int .i64 idx,.slice a1 n1 c1,.slice a2 n2 c2] 45 (0,0)))∧Hid (Below w.heap.size w W)) ⟨(heap_alloc_old _ _ (by simp)).trans (heap_alloc_new _ _),by have h:=heap_alloc_new (w.alloc (.cells #[.int .i64 B,.int .i64 S] 23)) (.cells #[.int .i64 idx,.slice a1 n1 c1,.slice a2 n2 c2] 45);rwa [World.size_alloc] at h,((Below.refl _ _).alloc (Nat.le_refl _) _).alloc (by simp) _⟩ ?_
  rintro W ⟨HG,HG2,HB⟩
  have hg:=HG.o
  have hg2:=HG2.o
  obtain ⟨k0,k1⟩:W.cell? ⟨w.heap.size,0,none⟩=some (.int .i64 B)∧W.cell? ⟨w.heap.size,1,none⟩=some (.int .i64 S):=⟨cr hg,cr hg⟩
  obtain ⟨j0,j1,j2⟩:W.cell? ⟨w.heap.size+1,0,none⟩=some (.int .i64 idx)∧W.cell? ⟨w.heap.size+1,1,none⟩=some (.slice a1 n1 c1)∧W.cell? ⟨w.heap.size+1,2,none⟩=some (.slice a2 n2 c2):=⟨cr hg2,cr hg2,cr hg2⟩
  clear hg hg2
  go_upto_region 2 with (first
   | (go_at_call 199
      (refine (HR2.o _ (HX.o.later HB.o) (HL.o.later HB.o (Nat.le_refl _))).mono ?_)
      rintro e w2 ⟨u2,rfl,hu2,h2⟩
      have hd2:=HD.o u2 hu2
      have H2:=hid (HB.o.trans (h2.mono HB.o.size))
      clear h2 hu2))
  go_wp2_with fail
  go_ret
  exact ⟨by first | rfl | simp,H2.o⟩
 ·have HR2:Hid (∀w,SigAt w (.agg #[.int .i64 idx,.slice a1 n1 c1,.slice a2 n2 c2]) idx ps qs→Laid w→Calls Tryz.prog 199 #[.agg #[.int .i64 B,.int .i64 S],.string dg,.agg #[.int .i64 idx,.slice a1 n1 c1,.slice a2 n2 c2]] w fun e w'=>e= .returned (.tuple #[.string ByteArray.empty,.int .i64 1])∧Below w.heap.size w w'):=hid (fun w hx hL=>(HRT.o w hx hL).mono fun e w' h=>by
     rcases h with ⟨hb,⟨hf,_⟩ | ⟨_,e1⟩⟩
     ·exact absurd hf hF
     ·exact ⟨e1,hb⟩)
  have HD:Hid (decide (SigAcc B S (nb pk) (nb dg) idx (ps.map nb) (qs.map nb))=false):=hid (decide_eq_false (fun h=>hF h.1))
  obtain ⟨D,hDe⟩:=ex_eq (decide (SigAcc B S (nb pk) (nb dg) idx (ps.map nb) (qs.map nb)))
  rw [hDe] at HD ⊢
  clear hF HRT hps hS1 hqs hS2 hL hDe
  go_enter Tryz.func102,Tryz.ntmps102
  go_upto_region 1 with fail
  refine wp_over (fun W=>Hid (W.heap[w.heap.size]? =some (.cells #[.int .i64 B,.int .i64 S] 23 (0,0)))∧Hid (W.heap[w.heap.size+1]? =some (.cells #[.int .i64 idx,.slice a1 n1 c1,.slice a2 n2 c2] 45 (0,0)))∧Hid (Below w.heap.size w W)) ⟨(heap_alloc_old _ _ (by simp)).trans (heap_alloc_new _ _),by have h:=heap_alloc_new (w.alloc (.cells #[.int .i64 B,.int .i64 S] 23)) (.cells #[.int .i64 idx,.slice a1 n1 c1,.slice a2 n2 c2] 45);rwa [World.size_alloc] at h,((Below.refl _ _).alloc (Nat.le_refl _) _).alloc (by simp) _⟩ ?_
  rintro W ⟨HG,HG2,HB⟩
  have hg:=HG.o
  have hg2:=HG2.o
  obtain ⟨k0,k1⟩:W.cell? ⟨w.heap.size,0,none⟩=some (.int .i64 B)∧W.cell? ⟨w.heap.size,1,none⟩=some (.int .i64 S):=⟨cr hg,cr hg⟩
  obtain ⟨j0,j1,j2⟩:W.cell? ⟨w.heap.size+1,0,none⟩=some (.int .i64 idx)∧W.cell? ⟨w.heap.size+1,1,none⟩=some (.slice a1 n1 c1)∧W.cell? ⟨w.heap.size+1,2,none⟩=some (.slice a2 n2 c2):=⟨cr hg2,cr hg2,cr hg2⟩
  clear hg hg2
  go_upto_region 2 with (first
   | (go_at_call 199
      (refine (HR2.o _ (HX.o.later HB.o) (HL.o.later HB.o (Nat.le_refl _))).mono ?_)
      rintro e w2 ⟨rfl,h2⟩
      have H2:=hid (HB.o.trans (h2.mono HB.o.size))
      clear h2))
  go_wp2_with fail
  go_ret
  exact ⟨by rw [HD.o];rfl,H2.o⟩
theorem path_32: ∀(h i:Nat) (l:List (List Nat)),l.length=2 ^ h→(∀x ∈ l,x.length=32)→ ∀q ∈ Mrk.path h i l,q.length=32
 | 0,_,_,_,_,q,hq=>by cases hq
 | h+1,i,l,hl,h32,q,hq=>by
   have hp:2 ^ (h+1)=2 ^ h+2 ^ h:=by rw [Nat.pow_succ];omega
   have hT:(l.take (2 ^ h)).length=2 ^ h:=by rw [List.length_take];omega
   have hD:(l.drop (2 ^ h)).length=2 ^ h:=by rw [List.length_drop];omega
   have hT32: ∀x ∈ l.take (2 ^ h),x.length=32:=fun x hx=>h32 x (List.mem_of_mem_take hx)
   have hD32: ∀x ∈ l.drop (2 ^ h),x.length=32:=fun x hx=>h32 x (List.mem_of_mem_drop hx)
   rw [Mrk.path] at hq
   by_cases hi:i<2 ^ h
   ·rw [if_pos hi] at hq
    rcases List.mem_append.1 hq with h1 | h1
    ·exact path_32 h i _ hT hT32 q h1
    ·rw [List.mem_singleton.1 h1];exact Mrk.root_len h _ hD hD32
   ·rw [if_neg hi] at hq
    rcases List.mem_append.1 hq with h1 | h1
    ·exact path_32 h _ _ hD hD32 q h1
    ·rw [List.mem_singleton.1 h1];exact Mrk.root_len h _ hT hT32
theorem sigParts_len (b:Nat) (hB:Bits b) (seed:List Nat) (i:Nat) (dg:List Nat) (hd:dg.length=32):(sigParts b seed i dg).length=count b 32:=by
 unfold sigParts
 rw [sign_length,digits_length hB,hd]
theorem sigParts_32 (b:Nat) (seed:List Nat) (i:Nat) (dg:List Nat): ∀p ∈ sigParts b seed i dg,p.length=32:=fun p hp=>by
 obtain ⟨j,_,rfl⟩:=List.mem_map.1 hp
 exact chain_length _ _ _ _ (secret_length _ _)
theorem sigPath_len (b:Nat) (seed:List Nat) (t i:Nat):(sigPath b seed t i).length=t:=Mrk.path_length _ _ _
theorem sigPath_32 (b:Nat) (seed:List Nat) (t i:Nat): ∀q ∈ sigPath b seed t i,q.length=32:=path_32 _ _ _ (sigLeaves_len _ _ _) (sigLeaves_32 _ _ _)
theorem digits_last {b:Nat} (ds:List Nat): ∀x ∈ One.digits b ds,x≤last b:=fun x hx=>by
 have h1:=digits_lt b ds x hx
 unfold last
 omega
theorem sigRoot_sign (b:Nat) (hB:Bits b) (seed:List Nat) (t i:Nat) (hi:i<2 ^ t) (dg:List Nat) (hd:dg.length=32):sigRoot b dg i (sigParts b seed i dg) (sigPath b seed t i)=sigPub b seed t:=by
 unfold sigRoot sigPath sigPub
 have h1:Mrk.leaf (recover b (One.digits b dg) (sigParts b seed i dg))=(sigLeaves b seed (2 ^ t)).getD i []:=by
  unfold sigParts
  rw [verifies b _ _ (digits_last _),digits_length hB,hd]
  simp [sigLeaves,lD,hi]
  rfl
 rw [h1]
 exact Mrk.climb_path t i _ (sigLeaves_len _ _ _) hi
theorem sigAcc_sign (b:Nat) (hB:Bits b) (hb4:b≤4) (seed:List Nat) (t i:Nat) (ht:t≤8) (hi:i<2 ^ t) (dg:List Nat) (hd:dg.length=32):SigAcc (b:Int) (t:Int) (sigPub b seed t) dg (i:Int) (sigParts b seed i dg) (sigPath b seed t i):=by
 refine ⟨⟨⟨by rcases hB with rfl | rfl | rfl | rfl<;> first | omega | simp,by omega,by omega⟩,hd,by omega,?_,by rw [sigPath_len],sigPath_32 _ _ _ _,by rw [Int.toNat_natCast];exact sigParts_len b hB _ _ _ hd,sigParts_32 _ _ _ _⟩,by rw [Int.toNat_natCast,Int.toNat_natCast];exact sigRoot_sign b hB seed t i hi dg hd⟩
 rw [Int.toNat_natCast,show (2:Int) ^ t=((2 ^ t:Nat):Int) from (Int.natCast_pow 2 t).symm]
 exact Int.ofNat_lt.2 hi
end Go.Proofs.YtndlihclgdkpaaaGreatDoor
