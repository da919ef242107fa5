/- Texts Bln, Mrk, Mka, Mkt, Mku, Mkp, merged. -/
import Derived.Shelf.Small.Bits
import Derived.Test.YtndlihclgdkpaaaGreatDoorGb
import Derived.Test.YtndlihclgdkpaaaGreatDoorGc
/- math/bits.Len, by the shelf (laid in plain words by the kit's tool). -/
set_option linter.unusedVariables false
set_option linter.unusedSimpArgs false
open Go.Lib (hid)
set_option maxHeartbeats 4000000
set_option maxRecDepth 100000
namespace Go.Proofs.YtndlihclgdkpaaaGreatDoor
open Go.Shelf
def lays125_ren:Go.Shelf.Ren:=⟨fun | 125=> 235 | 128=> 283 | 129=> 284 | n=>n,fun | 46=> 279 | 3=>3 | 51=> 304 | 53=> 167 | 4=>4 | 5=>5 | 9=>9 | n=>n,fun | n=>n⟩
theorem lays125:Go.Proofs.Lays.n125 Tryz.prog lays125_ren:={
 mixed:=by kernel_rfl
 f125:= Tryz.func235.trans (congrArg some (by kernel_rfl))
 f128:= Tryz.func283.trans (congrArg some (by kernel_rfl))
 f129:= Tryz.func284.trans (congrArg some (by kernel_rfl))
 t3:= Tryz.underlying3
 a3:= Tryz.isAgg3
 z3:= Tryz.sizeOf3
 v3:= Tryz.zeroValue3
 t4:= Tryz.underlying4
 a4:= Tryz.isAgg4
 z4:= Tryz.sizeOf4
 v4:= Tryz.zeroValue4
 t5:= Tryz.underlying5
 a5:= Tryz.isAgg5
 z5:= Tryz.sizeOf5
 v5:= Tryz.zeroValue5
 t9:= Tryz.underlying9
 a9:= Tryz.isAgg9
 z9:= Tryz.sizeOf9
 v9:= Tryz.zeroValue9
 t46:= Tryz.underlying279
 a46:= Tryz.isAgg279
 z46:= Tryz.sizeOf279
 v46:= Tryz.zeroValue279
 t51:= Tryz.underlying304
 a51:= Tryz.isAgg304
 z51:= Tryz.sizeOf304
 v51:= Tryz.zeroValue304
 t53:= Tryz.underlying167
 a53:= Tryz.isAgg167
 z53:= Tryz.sizeOf167
 v53:= Tryz.zeroValue167 }
theorem bits_Len (x:Int) (w:World) (h0:0≤x) (h1:x≤18446744073709551615):
    Calls Tryz.prog 235 #[.int .u64 x] w fun e w'=>e= .returned (.int .i64 (Lib.bitLen x.toNat))∧w'=w:=Any.bits_Len lays125 x w h0 h1
end Go.Proofs.YtndlihclgdkpaaaGreatDoor
namespace Go.Proofs.YtndlihclgdkpaaaGreatDoor
namespace Mrk
open Go.Proofs.YtndlihclgdkpaaaGreatDoor.One

def leaf (x:List Nat):List Nat:=Sha.sum (0::x)
def node (l r:List Nat):List Nat:=Sha.sum (1::(l++r))
def root:Nat→List (List Nat)→List Nat
 | 0,l=>l.getD 0 []
 | h+1,l=>node (root h (l.take (2 ^ h))) (root h (l.drop (2 ^ h)))
def path:Nat→Nat→List (List Nat)→List (List Nat)
 | 0,_,_=>[]
 | h+1,i,l=>if i<2 ^ h then path h i (l.take (2 ^ h))++[root h (l.drop (2 ^ h))] else path h (i - 2 ^ h) (l.drop (2 ^ h))++[root h (l.take (2 ^ h))]
def step (x:List Nat) (i:Nat) (p:List Nat):List Nat:=if i % 2=0 then node x p else node p x
def climb:List Nat→Nat→List (List Nat)→List Nat
 | x,_,[]=>x
 | x,i,p::ps=>climb (step x i p) (i/2) ps
theorem node_len (l r:List Nat):(node l r).length=32:=Sha.sum_length _
theorem leaf_len (x:List Nat):(leaf x).length=32:=Sha.sum_length _
theorem node_lt (l r:List Nat): ∀x ∈ node l r,x<256:=Sha.sum_lt _
theorem path_length: ∀h i l,(path h i l).length=h
 | 0,_,_=>rfl
 | h+1,i,l=>by
   rw [path]
   by_cases hi:i<2 ^ h
   ·rw [if_pos hi,List.length_append,path_length h];rfl
   ·rw [if_neg hi,List.length_append,path_length h];rfl
theorem climb_snoc: ∀(ps:List (List Nat)) (x:List Nat) (i:Nat) (q:List Nat),climb x i (ps++[q])=step (climb x i ps) (i/2 ^ ps.length) q
 | [],x,i,q=>by simp [climb]
 | p::ps,x,i,q=>by
   rw [List.cons_append,climb,climb_snoc ps,climb,List.length_cons,Nat.pow_succ,Nat.mul_comm,← Nat.div_div_eq_div_mul]
theorem climb_mod: ∀(ps:List (List Nat)) (x:List Nat) (i j:Nat),i % 2 ^ ps.length=j % 2 ^ ps.length→climb x i ps=climb x j ps
 | [],_,_,_,_=>rfl
 | p::ps,x,i,j,h=>by
   rw [List.length_cons,Nat.pow_succ,Nat.mul_comm,Nat.mod_mul,Nat.mod_mul] at h
   have h2:i % 2=j % 2:=by
    have a:=congrArg (· % 2) h
    simpa [Nat.add_mul_mod_self_left] using a
   have h3:i/2 % 2 ^ ps.length=j/2 % 2 ^ ps.length:=by omega
   rw [climb,climb,climb_mod ps _ _ _ h3]
   unfold step
   rw [h2]
theorem getD_take (l:List (List Nat)) (i n:Nat) (h:i<n):(l.take n).getD i []=l.getD i []:=by
 rw [lD,lD,List.getElem?_take_of_lt h]
theorem getD_drop (l:List (List Nat)) (i n:Nat):(l.drop n).getD i []=l.getD (n+i) []:=by
 rw [lD,lD,List.getElem?_drop]
theorem climb_path: ∀(h i:Nat) (l:List (List Nat)),l.length=2 ^ h→i<2 ^ h→climb (l.getD i []) i (path h i l)=root h l
 | 0,i,l,hl,hi=>by
   have:i=0:=by simp at hi;exact hi
   subst this
   rfl
 | h+1,i,l,hl,hi=>by
   have hp:2 ^ (h+1)=2 ^ h+2 ^ h:=by rw [Nat.pow_succ];omega
   rw [path,root]
   by_cases h1:i<2 ^ h
   ·rw [if_pos h1,climb_snoc,path_length,Nat.div_eq_of_lt h1,← getD_take l i (2 ^ h) h1,climb_path h i _ (by rw [List.length_take];omega) h1]
    rfl
   ·have h2:i/2 ^ h=1:=by
       rw [Nat.div_eq_iff (Nat.two_pow_pos h)];omega
    have h3:climb (l.getD i []) i (path h (i - 2 ^ h) (l.drop (2 ^ h)))=climb (l.getD i []) (i - 2 ^ h) (path h (i - 2 ^ h) (l.drop (2 ^ h))):=by
     refine climb_mod _ _ _ _ ?_
     rw [path_length,Nat.mod_eq_of_lt (by omega:i - 2 ^ h<2 ^ h)]
     rw [Nat.mod_eq_sub_mod (by omega),Nat.mod_eq_of_lt (by omega)]
    rw [if_neg h1,climb_snoc,path_length,h2,h3]
    have h4:=climb_path h (i - 2 ^ h) (l.drop (2 ^ h)) (by rw [List.length_drop];omega) (by omega)
    rw [getD_drop,show 2 ^ h+(i - 2 ^ h)=i by omega] at h4
    rw [h4]
    rfl
theorem root_len: ∀h (l:List (List Nat)),l.length=2 ^ h→(∀x ∈ l,x.length=32)→(root h l).length=32
 | 0,l,hl,h=>by
   rw [root]
   match l,hl with
   | [x],_=>exact h x (List.mem_cons_self ..)
 | h+1,l,_,_=>node_len _ _
def level (k:Nat) (l:List (List Nat)):List (List Nat):=(List.range (l.length/2 ^ k)).map fun j=>root k ((l.drop (j*2 ^ k)).take (2 ^ k))
theorem level_length (k:Nat) (l:List (List Nat)):(level k l).length=l.length/2 ^ k:=by simp [level]
theorem level_getD (k:Nat) (l:List (List Nat)) (j:Nat) (h:j<l.length/2 ^ k):(level k l).getD j []=root k ((l.drop (j*2 ^ k)).take (2 ^ k)):=by
 simp [level,lD,h]
theorem level_zero (l:List (List Nat)):level 0 l=l:=by
 refine List.ext_getElem (by simp [level]) fun i h1 h2=> ?_
 simp only [level,List.getElem_map,List.getElem_range,root,Nat.pow_zero,Nat.mul_one]
 rw [getD_take _ _ _ (by decide),getD_drop,Nat.add_zero,lD,lE h2]
 rfl
theorem level_stay (k:Nat) (l:List (List Nat)) (x:List Nat) (h:(l.length+1)/2 ^ k=l.length/2 ^ k):level k (l++[x])=level k l:=by
 unfold level
 rw [List.length_append,List.length_singleton,h]
 refine List.map_congr_left fun j hj=> ?_
 have hj:=List.mem_range.1 hj
 have h1:(j+1)*2 ^ k≤l.length:=Nat.le_trans (Nat.mul_le_mul_right _ hj) (Nat.div_mul_le_self _ _)
 rw [Nat.add_mul,Nat.one_mul] at h1
 rw [List.drop_append_of_le_length (Nat.le_trans (Nat.le_add_right _ _) h1),List.take_append_of_le_length (by rw [List.length_drop];omega)]
theorem level_grow (k:Nat) (l:List (List Nat)) (x:List Nat) (h:(l.length+1)/2 ^ k=l.length/2 ^ k+1):
    level k (l++[x])=level k l++[root k (((l++[x]).drop (l.length/2 ^ k*2 ^ k)).take (2 ^ k))]:=by
 have e:level k (l++[x])=(List.range (l.length/2 ^ k+1)).map fun j=>root k (((l++[x]).drop (j*2 ^ k)).take (2 ^ k)):=by
  unfold level
  rw [List.length_append,List.length_singleton,h]
 rw [e,List.range_succ,List.map_append]
 congr 1
 unfold level
 refine List.map_congr_left fun j hj=> ?_
 have hj:=List.mem_range.1 hj
 have h1:(j+1)*2 ^ k≤l.length:=Nat.le_trans (Nat.mul_le_mul_right _ hj) (Nat.div_mul_le_self _ _)
 rw [Nat.add_mul,Nat.one_mul] at h1
 rw [List.drop_append_of_le_length (Nat.le_trans (Nat.le_add_right _ _) h1),List.take_append_of_le_length (by rw [List.length_drop];omega)]
theorem root_block (k j:Nat) (l:List (List Nat)):root (k+1) ((l.drop (j*2 ^ (k+1))).take (2 ^ (k+1)))=node (root k ((l.drop ((2*j)*2 ^ k)).take (2 ^ k))) (root k ((l.drop ((2*j+1)*2 ^ k)).take (2 ^ k))):=by
 obtain ⟨p,hp⟩: ∃p,p=2 ^ k:=⟨_,rfl⟩
 have hp2:2 ^ (k+1)=p+p:=by rw [Nat.pow_succ,hp];omega
 rw [root,hp2,← hp]
 obtain ⟨m,hm⟩: ∃m,m=j*p:=⟨_,rfl⟩
 have e1:j*(p+p)=m+m:=by rw [Nat.mul_add,hm]
 have e2:2*j*p=m+m:=by rw [Nat.mul_assoc,← hm];omega
 have e3:(2*j+1)*p=m+m+p:=by rw [Nat.add_mul,Nat.one_mul,e2]
 rw [e1,e2,e3,List.take_take,Nat.min_eq_left (by omega),List.drop_take,List.drop_drop,show p+p - p=p by omega]
end Mrk
end Go.Proofs.YtndlihclgdkpaaaGreatDoor
namespace Go.Proofs.YtndlihclgdkpaaaGreatDoor
open Go.RowKit
open Kit (Chg)
open Sha (v)
open Go.Proofs.YtndlihclgdkpaaaGreatDoor.One

theorem isSumM_any (s:ByteArray) (w:World):Calls Tryz.prog 120 #[.string s] w fun e w'=>e= .returned (.bool (decide (s.size=32)))∧w=w':=by
 have e:((s.size:Int)==32)=decide (s.size=32):=by
  rw [Bool.eq_iff_iff,beq_iff_eq,decide_eq_true_eq];omega
 go_enter Tryz.func120,Tryz.ntmps120
 go_wp2
 go_ret
 exact ⟨rfl,rfl⟩
theorem one_lit:nb { data:= #[1] }=[1]:=rfl
theorem catB_three (s l r:ByteArray):catB [s,l,r]=nb s++(nb l++nb r):=by
 unfold catB nb
 simp
theorem node_l (l r:ByteArray) (hl:l.size=32) (hr:r.size=32) (T:List Nat) (hT:Mrk.node (nb l) (nb r)=T) (w:World) (hL:Laid w):
    Calls Tryz.prog 177 #[.string l,.string r] w fun e w'=> ∃u:ByteArray,e= .returned (.string u)∧nb u=T∧u.size=32∧Below w.heap.size w w':=by
 have HL:=hid hL
 have HTL:Hid (T.length=32):=hid (by rw [← hT];exact Mrk.node_len _ _)
 have HT:Hid (Sha.sum (catB [{ data:= #[1] },l,r])=T):=hid (by rw [← hT,catB_three,one_lit];rfl)
 have HCL:Hid ((catB [{ data:= #[1] },l,r]).length≤100000000000):=hid (by rw [catB_three,List.length_append,List.length_append,nb_length,nb_length,nb_length,hl,hr];decide)
 obtain ⟨CT,hCT⟩:=ex_eq (catB [{ data:= #[1] },l,r])
 have HCT:=hid hCT
 rw [hCT] at HT HCL
 clear hl hr hT hL hCT
 go_enter Tryz.func177,Tryz.ntmps177
 have HB1:Hid (Below w.heap.size w (w.alloc (.cells #[.string { data:= #[1] },.string l,.string r] 9))):=hid ((Below.refl _ _).alloc (Nat.le_refl _) _)
 have HS1:Hid (StrsAt (w.alloc (.cells #[.string { data:= #[1] },.string l,.string r] 9)) (some ⟨w.heap.size,0,none⟩) [{ data:= #[1] },l,r]):=hid (strs_of_row (t:=9) (heap_alloc_new w _))
 go_wp2_with (first
  | (go_at_call 244
     (refine (join_l (some ⟨w.heap.size,0,none⟩) 3 [{ data:= #[1] },l,r] 3 rfl (by rw [HCT.o];exact HCL.o) (by show 3≤1000000000;omega) _ HS1.o (HL.o.later HB1.o (Nat.le_refl _)) CT HCT.o).mono ?_)
     rintro e w2 ⟨u,rfl,hu,h2⟩
     have HU:=hid hu
     have H2:=hid h2
     clear hu h2))
 go_ret
 exact ⟨u,rfl,by rw [HU.o,HT.o],by rw [← nb_length,HU.o,HT.o];exact HTL.o,HB1.o.trans (H2.o.mono HB1.o.size)⟩
theorem write_l (b o:Nat) (ps:List Nat) (a:Option Addr) (cap:Nat) (xs:List Nat) (L:Nat) (hLe:xs.length=L) (hcap:L≤cap) (hnil:a=none→cap=0) (hl:ps.length+L≤1000000000000) (w:World) (h:StateAt w b o ps) (hB:BytesAt w a xs) (hab: ∀ad,a=some ad→0<xs.length→ad.block≠b) (hK:KonAt w) (hbk:b≠ 2):
    Calls Tryz.prog 179 #[.pointer (some ⟨b,o,none⟩),.slice a L cap] w fun e w'=>e= .returned (.tuple #[])∧StateAt w' b o (ps++xs)∧Chg (stateCells b o) w w':=by
 subst hLe
 exact write_any b o ps a cap xs hcap hnil hl w h hB hab hK hbk
theorem leaf_l (bk o:Nat) (cap:Nat) (xs:List Nat) (L:Nat) (hLe:xs.length=L) (hcap:L≤cap) (hl:L≤1000000) (w:World) (hB:BytesAt w (some ⟨bk,o,none⟩) xs) (hbk:bk<w.heap.size) (hL:Laid w) (T:List Nat) (hT:Mrk.leaf xs=T):
    Calls Tryz.prog 83 #[.slice (some ⟨bk,o,none⟩) L cap] w fun e w'=> ∃u:ByteArray,e= .returned (.string u)∧nb u=T∧u.size=32∧Below w.heap.size w w':=by
 have HLE:=hid hLe
 have HB:=hid hB
 have HL:=hid hL
 have HTL:Hid (T.length=32):=hid (by rw [← hT];exact Mrk.leaf_len _)
 have HT:=hid hT
 have HBK:=hid hbk
 clear hB hL hT hbk hLe
 go_enter Tryz.func83,Tryz.ntmps83
 go_upto_region 2 with (first
  | (with_reducible refine (newState_any _ HL.o.init).mono ?_
     rintro e w1 ⟨rfl,h1⟩
     have H1:=hid h1
     clear h1))
 obtain ⟨N,hN⟩:=ex_eq w.heap.size
 have HS1:Hid (StateAt w1 N 0 []):=hid (by rw [H1.o,← hN];exact state_new (heap_alloc_new _ _))
 have HB1:Hid (Below N w w1):=hid (by rw [H1.o,← hN];exact (Below.refl _ _).alloc (Nat.le_refl _) _)
 have HN1:Hid (w1.heap.size=N+1):=hid (by rw [H1.o,← hN];simp)
 have HKN:Hid (N≠ 2):=hid (by have:=HL.o.kon.lt;omega)
 rw [hN]
 have HN:=hid hN
 clear hN H1
 have HB2:Hid (Below (N+1) w1 (w1.alloc (.cells #[.int .u8 0] 5))):=hid ((Below.refl _ _).alloc (by have:=HN1.o;omega) _)
 have HS2:Hid (StateAt (w1.alloc (.cells #[.int .u8 0] 5)) N 0 []):=hid (HS1.o.later (by rw [HN1.o];exact HB2.o))
 have HBW:Hid (Below N w (w1.alloc (.cells #[.int .u8 0] 5))):=hid (HB1.o.trans (HB2.o.mono (Nat.le_succ N)))
 have HZ2:Hid (BytesAt (w1.alloc (.cells #[.int .u8 0] 5)) (some ⟨w1.heap.size,0,none⟩) [0]):=hid (row_bytes0 (t:=5) (heap_alloc_new w1 _) rfl (by decide) (by decide))
 have HK2:Hid (KonAt (w1.alloc (.cells #[.int .u8 0] 5))):=hid (HL.o.kon.later (by rw [HN.o];exact HBW.o))
 go_upto_region 3 with (first
  | (with_reducible refine (write_l N 0 [] (some ⟨w1.heap.size,0,none⟩) 1 [0] 1 rfl (Nat.le_refl _) (fun e=>by cases e) (by decide) _ HS2.o HZ2.o (fun ad e h0=>by cases e;have:=HN1.o;show w1.heap.size≠N;omega) HK2.o HKN.o).mono ?_
     rintro e w3 ⟨rfl,h2,h3⟩
     have HS3:=hid h2
     have HC3:=hid h3
     clear h2 h3))
 have HB3:Hid (Below N w w3):=hid (HBW.o.trans (HC3.o.below (by have:=HS2.o.lt;omega) (fun k i hk h=>by have:=h.1;omega)))
 have HK3:Hid (KonAt w3):=hid (HL.o.kon.later (by rw [HN.o];exact HB3.o))
 have HX3:Hid (BytesAt w3 (some ⟨bk,o,none⟩) xs):=hid (HB.o.later (by rw [HN.o];exact HB3.o))
 go_upto_region 4 with (first
  | (with_reducible refine (write_l N 0 ([]++[0]) (some ⟨bk,o,none⟩) cap xs L HLE.o hcap (fun e=>by cases e) (by simp;omega) _ HS3.o HX3.o (fun ad e h0=>by cases e;have:=HBK.o;have:=HN.o;show bk≠N;omega) HK3.o HKN.o).mono ?_
     rintro e w4 ⟨rfl,h2,h3⟩
     have HS4:=hid h2
     have HC4:=hid h3
     clear h2 h3))
 have HB4:Hid (Below N w w4):=hid (HB3.o.trans (HC4.o.below (by have:=HS3.o.lt;omega) (fun k i hk h=>by have:=h.1;omega)))
 have HK4:Hid (KonAt w4):=hid (HL.o.kon.later (by rw [HN.o];exact HB4.o))
 go_wp2_with (first
  | (with_reducible refine (stateSum_any N 0 ([]++[0]++xs) (by have:=HLE.o;simp;omega) _ HS4.o HK4.o).mono ?_
     rintro e w5 ⟨bs,rfl,h4,h5⟩
     have H4:=hid h4
     have H5:=hid h5
     clear h4 h5))
 go_ret
 have e1:bs=T:=by rw [H4.o,← HT.o];rfl
 have e2: ∀x ∈ bs,x<256:=by rw [H4.o];exact Sha.sum_lt _
 exact ⟨strB bs,rfl,by rw [nb_strB e2,e1],by rw [strB_size _ e2,e1];exact HTL.o,by rw [HN.o];exact HB4.o.trans (H5.o.mono (by have:=HS4.o.lt;omega))⟩
theorem bitLen_low: ∀k:Fin 9,Lib.bitLen (2 ^ (k.val+1) - 1)=k.val+1:=by decide+kernel
theorem bitLen_pow: ∀k:Fin 9,Lib.bitLen (2 ^ k.val)=k.val+1:=by decide+kernel
theorem split_0 (w:World):Calls Tryz.prog 183 #[.int .i64 2] w fun e w'=>e= .returned (.int .i64 1)∧w=w':=by
 have hbl:=fun w=>bits_Len 1 w (by decide) (by decide)
 rw [show Lib.bitLen (1:Int).toNat=1 from bitLen_low ⟨0,by decide⟩] at hbl
 go_enter Tryz.func183,Tryz.ntmps183
 go_wp2_with (first
  | (go_at_call 235
     (refine (hbl _).mono ?_)
     rintro e w2 ⟨rfl,rfl⟩))
 go_ret
 exact ⟨rfl,rfl⟩
theorem split_1 (w:World):Calls Tryz.prog 183 #[.int .i64 4] w fun e w'=>e= .returned (.int .i64 2)∧w=w':=by
 have hbl:=fun w=>bits_Len 3 w (by decide) (by decide)
 rw [show Lib.bitLen (3:Int).toNat=2 from bitLen_low ⟨1,by decide⟩] at hbl
 go_enter Tryz.func183,Tryz.ntmps183
 go_wp2_with (first
  | (go_at_call 235
     (refine (hbl _).mono ?_)
     rintro e w2 ⟨rfl,rfl⟩))
 go_ret
 exact ⟨rfl,rfl⟩
theorem split_2 (w:World):Calls Tryz.prog 183 #[.int .i64 8] w fun e w'=>e= .returned (.int .i64 4)∧w=w':=by
 have hbl:=fun w=>bits_Len 7 w (by decide) (by decide)
 rw [show Lib.bitLen (7:Int).toNat=3 from bitLen_low ⟨2,by decide⟩] at hbl
 go_enter Tryz.func183,Tryz.ntmps183
 go_wp2_with (first
  | (go_at_call 235
     (refine (hbl _).mono ?_)
     rintro e w2 ⟨rfl,rfl⟩))
 go_ret
 exact ⟨rfl,rfl⟩
theorem split_3 (w:World):Calls Tryz.prog 183 #[.int .i64 16] w fun e w'=>e= .returned (.int .i64 8)∧w=w':=by
 have hbl:=fun w=>bits_Len 15 w (by decide) (by decide)
 rw [show Lib.bitLen (15:Int).toNat=4 from bitLen_low ⟨3,by decide⟩] at hbl
 go_enter Tryz.func183,Tryz.ntmps183
 go_wp2_with (first
  | (go_at_call 235
     (refine (hbl _).mono ?_)
     rintro e w2 ⟨rfl,rfl⟩))
 go_ret
 exact ⟨rfl,rfl⟩
theorem split_4 (w:World):Calls Tryz.prog 183 #[.int .i64 32] w fun e w'=>e= .returned (.int .i64 16)∧w=w':=by
 have hbl:=fun w=>bits_Len 31 w (by decide) (by decide)
 rw [show Lib.bitLen (31:Int).toNat=5 from bitLen_low ⟨4,by decide⟩] at hbl
 go_enter Tryz.func183,Tryz.ntmps183
 go_wp2_with (first
  | (go_at_call 235
     (refine (hbl _).mono ?_)
     rintro e w2 ⟨rfl,rfl⟩))
 go_ret
 exact ⟨rfl,rfl⟩
theorem split_5 (w:World):Calls Tryz.prog 183 #[.int .i64 64] w fun e w'=>e= .returned (.int .i64 32)∧w=w':=by
 have hbl:=fun w=>bits_Len 63 w (by decide) (by decide)
 rw [show Lib.bitLen (63:Int).toNat=6 from bitLen_low ⟨5,by decide⟩] at hbl
 go_enter Tryz.func183,Tryz.ntmps183
 go_wp2_with (first
  | (go_at_call 235
     (refine (hbl _).mono ?_)
     rintro e w2 ⟨rfl,rfl⟩))
 go_ret
 exact ⟨rfl,rfl⟩
theorem split_6 (w:World):Calls Tryz.prog 183 #[.int .i64 128] w fun e w'=>e= .returned (.int .i64 64)∧w=w':=by
 have hbl:=fun w=>bits_Len 127 w (by decide) (by decide)
 rw [show Lib.bitLen (127:Int).toNat=7 from bitLen_low ⟨6,by decide⟩] at hbl
 go_enter Tryz.func183,Tryz.ntmps183
 go_wp2_with (first
  | (go_at_call 235
     (refine (hbl _).mono ?_)
     rintro e w2 ⟨rfl,rfl⟩))
 go_ret
 exact ⟨rfl,rfl⟩
theorem split_7 (w:World):Calls Tryz.prog 183 #[.int .i64 256] w fun e w'=>e= .returned (.int .i64 128)∧w=w':=by
 have hbl:=fun w=>bits_Len 255 w (by decide) (by decide)
 rw [show Lib.bitLen (255:Int).toNat=8 from bitLen_low ⟨7,by decide⟩] at hbl
 go_enter Tryz.func183,Tryz.ntmps183
 go_wp2_with (first
  | (go_at_call 235
     (refine (hbl _).mono ?_)
     rintro e w2 ⟨rfl,rfl⟩))
 go_ret
 exact ⟨rfl,rfl⟩
theorem split_ok (k:Nat) (hk:k≤7) (w:World):Calls Tryz.prog 183 #[.int .i64 ((2 ^ (k+1):Nat):Int)] w fun e w'=>e= .returned (.int .i64 ((2 ^ k:Nat):Int))∧w=w':=by
 have hc:k=0∨k=1∨k=2∨k=3∨k=4∨k=5∨k=6∨k=7:=by omega
 rcases hc with rfl | rfl | rfl | rfl | rfl | rfl | rfl | rfl
 ·exact split_0 w
 ·exact split_1 w
 ·exact split_2 w
 ·exact split_3 w
 ·exact split_4 w
 ·exact split_5 w
 ·exact split_6 w
 ·exact split_7 w
theorem ownsRow_setC {w:World} {B e n bl cap:Nat} {rows:List Value} (h:w.ownsRow B e 1 (.slice (some ⟨bl,0,none⟩) n cap) n rows) (k:Nat) (hk:k<n) (x:Value):
    (w.setCell ⟨bl,k,none⟩ x).ownsRow B e 1 (.slice (some ⟨bl,0,none⟩) n cap) n (rows.set k x):=by
 obtain ⟨h1,h2⟩:=h
 refine ⟨by rw [List.length_set];exact h1,?_⟩
 rcases h2 with ⟨h3,_⟩ | ⟨g,cap',cur,he,hb,hg,hc,hm,hs,ht⟩
 ·cases h3
 ·cases he
  refine .inr ⟨bl,cap,cur.setIfInBounds k x,rfl,hb,heap_setCell_same _ _ _ _ _ _ hg,hc,hm,by rw [Array.size_setIfInBounds];exact hs,?_⟩
  rw [Array.toList_setIfInBounds,List.take_set,ht]
theorem ownsRow_free {w:World} {B e n bl cap:Nat} {rows:List Value} (h:w.ownsRow B e 1 (.slice (some ⟨bl,0,none⟩) n cap) n rows) (k:Nat) (hk:k<n) (d:Value):
    w.cell? ⟨bl,k,none⟩=some (rows.getD k d)∧w.frozen? ⟨bl,k,none⟩=false:=by
 obtain ⟨h1,h2⟩:=h
 rcases h2 with ⟨h3,_⟩ | ⟨g,cap',cur,he,hb,hg,hc,hm,hs,ht⟩
 ·cases h3
 ·cases he
  refine ⟨?_,frozen_of_row _ _ _ _ _ hg⟩
  rw [cell_of_row _ _ _ _ _ _ hg,← ht,lD,List.getElem?_take_of_lt (by omega)]
  have hk2:k<cur.size:=by omega
  simp [hk2]
structure RowsAt (w:World) (B:Nat) (rows:List Value) (ls:List (List ByteArray)):Prop where
 len:rows.length=ls.length
 own: ∀k,k<ls.length→w.ownsRow B 9 1 (rows.getD k (.slice none 0 0)) (ls.getD k []).length (strV (ls.getD k []))
 apart: ∀i j,i<ls.length→j<ls.length→i≠j→ ∀b,(rows.getD i (.slice none 0 0)).ownBlock=some b→(rows.getD j (.slice none 0 0)).ownBlock≠some b
structure TreeR (w:World) (B g:Nat) (ls:List (List ByteArray)) (bl cap:Nat) (rows:List Value):Prop where
 box:w.heap[g]? =some (.cells #[.slice (some ⟨bl,0,none⟩) ls.length cap] 241 (0,0))
 base:B≤g
 row:w.ownsRow B 43 1 (.slice (some ⟨bl,0,none⟩) ls.length cap) ls.length rows
 rows:RowsAt w B rows ls
def TreeAt (w:World) (B g:Nat) (ls:List (List ByteArray)):Prop:= ∃bl cap rows,TreeR w B g ls bl cap rows
theorem RowsAt.keep {w w':World} {B:Nat} {rows:List Value} {ls:List (List ByteArray)} (h:RowsAt w B rows ls) (hk: ∀k,k<ls.length→w.ownsRow B 9 1 (rows.getD k (.slice none 0 0)) (ls.getD k []).length (strV (ls.getD k []))→w'.ownsRow B 9 1 (rows.getD k (.slice none 0 0)) (ls.getD k []).length (strV (ls.getD k []))):RowsAt w' B rows ls:=
 ⟨h.len,fun k hk2=>hk k hk2 (h.own k hk2),h.apart⟩
theorem TreeR.later {w w':World} {B g bl cap:Nat} {ls:List (List ByteArray)} {rows:List Value} (h:TreeR w B g ls bl cap rows) (hb:Below w.heap.size w w'):TreeR w' B g ls bl cap rows:=
 ⟨(hb.block g (gS h.box).1).trans h.box,h.base,own_later h.row hb,h.rows.keep fun k _ ho=>own_later ho hb⟩
theorem TreeAt.later {w w':World} {B g:Nat} {ls:List (List ByteArray)} (h:TreeAt w B g ls) (hb:Below w.heap.size w w'):TreeAt w' B g ls:=by
 obtain ⟨bl,cap,rows,h⟩:=h
 exact ⟨bl,cap,rows,h.later hb⟩
theorem TreeAt.lt {w:World} {B g:Nat} {ls:List (List ByteArray)} (h:TreeAt w B g ls):g<w.heap.size:=by
 obtain ⟨bl,cap,rows,h⟩:=h
 exact (gS h.box).1
theorem TreeR.cell {w:World} {B g bl cap:Nat} {ls:List (List ByteArray)} {rows:List Value} (h:TreeR w B g ls bl cap rows):w.cell? ⟨g,0,none⟩=some (.slice (some ⟨bl,0,none⟩) ls.length cap)∧w.frozen? ⟨g,0,none⟩=false:=
 ⟨cr h.box,frozen_of_row _ _ _ _ _ h.box⟩
theorem TreeR.level {w:World} {B g bl cap:Nat} {ls:List (List ByteArray)} {rows:List Value} (h:TreeR w B g ls bl cap rows) (k:Nat) (hk:k<ls.length): ∃a c,w.cell? ⟨bl,k,none⟩=some (.slice a (ls.getD k []).length c)∧StrsAt w a (ls.getD k []):=by
 have h1:=(ownsRow_free h.row k hk (.slice none 0 0)).1
 obtain ⟨a,c,he,_,_,hS,_,_⟩:=strs_of_own (h.rows.own k hk)
 exact ⟨a,c,by rw [h1,he],hS⟩
theorem getD_set_same {α:Type} (l:List α) (k:Nat) (x d:α) (h:k<l.length):(l.set k x).getD k d=x:=by
 simp [lD,h]
theorem getD_set_ne {α:Type} (l:List α) (k j:Nat) (x d:α) (h:k≠j):(l.set k x).getD j d=l.getD j d:=by
 simp [lD,List.getElem?_set_ne h]
def Apart (w w':World):Prop:= ∀(q:Nat) (c:Array Value) (T:TypeId) (f:Nat × Nat),w.heap[q]? =some (.cells c T f)→T≠9→T≠ 43 →T≠ 241 →w'.heap[q]? =some (.cells c T f)
theorem Apart.refl (w:World):Apart w w:=fun _ _ _ _ h _ _ _=>h
theorem Apart.trans {w w1 w2:World} (h:Apart w w1) (k:Apart w1 w2):Apart w w2:=fun q c T f hq h1 h2 h3=>k q c T f (h q c T f hq h1 h2 h3) h1 h2 h3
theorem Apart.of_below {w w':World} (h:Below w.heap.size w w'):Apart w w':=fun q c T f hq _ _ _=>(h.block q (gS hq).1).trans hq
theorem tree_push {w:World} {B g bl cap:Nat} {ls:List (List ByteArray)} {rows:List Value} (h:TreeR w B g ls bl cap rows) (hB:B≤w.heap.size) (k:Nat) (hk:k<ls.length) (r:ByteArray) {tmp:Obj} {w4:World} {v':Value}
    (hown:w4.ownsRow B 9 1 v' ((ls.getD k []).length+1) (strV (ls.getD k []++[r]))) (hgr:(w.alloc tmp).grownBy w4 (rows.getD k (.slice none 0 0)).ownBlock)
    (hat:v'.ownBlock=(rows.getD k (.slice none 0 0)).ownBlock∨v'.ownBlock=some (w.alloc tmp).heap.size):
    w4.cell? ⟨g,0,none⟩=some (.slice (some ⟨bl,0,none⟩) ls.length cap)∧w4.cell? ⟨bl,k,none⟩=some (rows.getD k (.slice none 0 0))∧w4.frozen? ⟨bl,k,none⟩=false∧
     TreeR (w4.setCell ⟨bl,k,none⟩ v') B g (ls.set k (ls.getD k []++[r])) bl cap (rows.set k v')∧Below B w (w4.setCell ⟨bl,k,none⟩ v')∧Apart w (w4.setCell ⟨bl,k,none⟩ v'):=by
 have hvk:=h.rows.own k hk
 have hc:Chg (fun q _=>some q=(rows.getD k (.slice none 0 0)).ownBlock) w w4:=(Chg.alloc1 w _).trans (Chg.of_grown hgr (fun q _ e=>e.symm))
 have hg1:some g≠(rows.getD k (.slice none 0 0)).ownBlock:=not_row_of hvk h.box (by decide)
 have hbox4:w4.heap[g]? =some (.cells #[.slice (some ⟨bl,0,none⟩) ls.length cap] 241 (0,0)):=(hc.other g (gS h.box).1 (fun _=>hg1)).trans h.box
 have hrow4:w4.ownsRow B 43 1 (.slice (some ⟨bl,0,none⟩) ls.length cap) ls.length rows:=ownsRow_keepM h.row hc (fun q hq _ he=>rows_apart h.row hvk (by decide) hq he)
 have hother: ∀j,j<ls.length→j≠k→w4.ownsRow B 9 1 (rows.getD j (.slice none 0 0)) (ls.getD j []).length (strV (ls.getD j [])):=fun j hj hne=>
  ownsRow_keepM (h.rows.own j hj) hc (fun q hq _ he=>h.rows.apart j k hj hk hne q hq he.symm)
 have hblg:g≠bl:=by
  intro e
  have h1:=row_type hrow4 (g:=bl) rfl
  obtain ⟨cur,h1⟩:=h1
  rw [← e,hbox4] at h1
  cases h1
 have hnb: ∀{e:Nat} {x:Value} {n:Nat} {xs:List Value},w4.ownsRow B e 1 x n xs→e≠ 43 →(w4.setCell ⟨bl,k,none⟩ v').ownsRow B e 1 x n xs:=fun ho he=>
  ownsRow_keepM ho (Chg.setCell1 (M:=fun q _=>q=bl) _ _ _ _ rfl) (fun q hq _ hm=>by
   subst hm
   exact rows_apart hrow4 ho (Ne.symm he) (g:=q) rfl hq.symm)
 have hcell:=ownsRow_free hrow4 k hk (.slice none 0 0)
 have hb4:Below B w w4:=hc.below hB (fun q i hq e=>by have:=(hvk.lt q e.symm).1;omega)
 have hnew: ∀j,j<ls.length→j≠k→ ∀b,v'.ownBlock=some b→(rows.getD j (.slice none 0 0)).ownBlock≠some b:=fun j hj hne b hb hjb=>by
  rcases hat with e | e
  ·exact h.rows.apart j k hj hk hne b hjb (by rw [← e];exact hb)
  ·rw [hb] at e
   have h1:=((h.rows.own j hj).lt b hjb).2
   have h2:=Option.some.inj e
   have h3:w.heap.size≤(w.alloc tmp).heap.size:=by simp
   omega
 have hap:Apart w (w4.setCell ⟨bl,k,none⟩ v'):=fun q c T f hq h9 h47 hT=>by
  have h1:w4.heap[q]? =some (.cells c T f):=(hc.other q (gS hq).1 (fun _ e=>not_row_of hvk hq h9 e)).trans hq
  refine (Go.RowKit.Below.heap_setCell _ _ _ _ (fun e=> ?_)).trans h1
  obtain ⟨cur,h2⟩:=row_type hrow4 (g:=bl) rfl
  simp only at e
  rw [← e,h1] at h2
  cases h2
  exact h47 rfl
 refine ⟨cr hbox4,hcell.1,hcell.2,⟨?_,h.base,?_,?_⟩,?_,hap⟩
 ·rw [List.length_set]
  exact (Go.RowKit.Below.heap_setCell _ _ _ _ hblg).trans hbox4
 ·rw [List.length_set]
  exact ownsRow_setC hrow4 k hk v'
 ·refine ⟨by rw [List.length_set,List.length_set];exact h.rows.len,fun j hj=> ?_,fun i j hi hj hne b=> ?_⟩
  ·rw [List.length_set] at hj
   by_cases e:j=k
   ·subst e
    rw [getD_set_same _ _ _ _ (by rw [h.rows.len];exact hk),getD_set_same _ _ _ _ hk,List.length_append]
    exact hnb hown (by decide)
   ·rw [getD_set_ne _ _ _ _ _ (Ne.symm e),getD_set_ne _ _ _ _ _ (Ne.symm e)]
    exact hnb (hother j hj e) (by decide)
  ·rw [List.length_set] at hi hj
   by_cases ei:i=k
   ·subst ei
    rw [getD_set_same _ _ _ _ (by rw [h.rows.len];exact hi),getD_set_ne _ _ _ _ _ hne]
    exact hnew j hj (Ne.symm hne) b
   ·by_cases ej:j=k
    ·subst ej
     rw [getD_set_ne _ _ _ _ _ (Ne.symm hne),getD_set_same _ _ _ _ (by rw [h.rows.len];exact hj)]
     exact fun h1 h2=>hnew i hi ei b h2 h1
    ·rw [getD_set_ne _ _ _ _ _ (Ne.symm ei),getD_set_ne _ _ _ _ _ (Ne.symm ej)]
     exact h.rows.apart i j hi hj hne b
 ·refine hb4.trans ((Chg.setCell1 (M:=fun q _=>q=bl) _ _ _ _ rfl).below (Nat.le_trans hB hb4.size) (fun q i hq e=> ?_))
  have:=(hrow4.lt bl rfl).1
  omega
theorem tree_level {w:World} {B g bl cap:Nat} {ls:List (List ByteArray)} {rows:List Value} (h:TreeR w B g ls bl cap rows) (hB:B≤w.heap.size) {tmp:Obj} {w4:World} {bl' cap':Nat}
    (hown:w4.ownsRow B 43 1 (.slice (some ⟨bl',0,none⟩) (ls.length+1) cap') (ls.length+1) (rows++[.slice none 0 0])) (hgr:(w.alloc tmp).grownBy w4 (some bl)):
    w4.cell? ⟨g,0,none⟩=some (.slice (some ⟨bl,0,none⟩) ls.length cap)∧w4.frozen? ⟨g,0,none⟩=false∧
     TreeR (w4.setCell ⟨g,0,none⟩ (.slice (some ⟨bl',0,none⟩) (ls.length+1) cap')) B g (ls++[[]]) bl' cap' (rows++[.slice none 0 0])∧Below B w (w4.setCell ⟨g,0,none⟩ (.slice (some ⟨bl',0,none⟩) (ls.length+1) cap'))∧Apart w (w4.setCell ⟨g,0,none⟩ (.slice (some ⟨bl',0,none⟩) (ls.length+1) cap')):=by
 have hc:Chg (fun q _=>q=bl) w w4:=(Chg.alloc1 w _).trans (Chg.of_grown hgr (fun q _ e=>(Option.some.inj e).symm))
 have hblg:g≠bl:=by
  intro e
  obtain ⟨cur,h1⟩:=row_type h.row (g:=bl) rfl
  rw [← e,h.box] at h1
  cases h1
 have hbox4:w4.heap[g]? =some (.cells #[.slice (some ⟨bl,0,none⟩) ls.length cap] 241 (0,0)):=(hc.other g (gS h.box).1 (fun _=>hblg)).trans h.box
 have hblg':g≠bl':=by
  intro e
  obtain ⟨cur,h1⟩:=row_type hown (g:=bl') rfl
  rw [← e,hbox4] at h1
  cases h1
 have hb4:Below B w w4:=hc.below hB (fun q i hq e=>by have:=(h.row.lt bl rfl).1;omega)
 have hkeep: ∀{e:Nat} {x:Value} {n:Nat} {xs:List Value},w4.ownsRow B e 1 x n xs→e≠ 241 →(w4.setCell ⟨g,0,none⟩ (.slice (some ⟨bl',0,none⟩) (ls.length+1) cap')).ownsRow B e 1 x n xs:=fun ho he=>
  ownsRow_keepM ho (Chg.setCell1 (M:=fun q _=>q=g) _ _ _ _ rfl) (fun q hq _ hm=>by
   subst hm
   exact not_row_of ho hbox4 (Ne.symm he) hq.symm)
 have hg0: ∀k,k<ls.length→(rows++[Value.slice none 0 0]).getD k (.slice none 0 0)=rows.getD k (.slice none 0 0)∧(ls++[[]]).getD k []=ls.getD k []:=fun k hk=>by
  constructor
  ·rw [lD,lD,List.getElem?_append_left (by rw [h.rows.len];exact hk)]
  ·rw [lD,lD,List.getElem?_append_left hk]
 have hg1: ∀k,k=ls.length→(rows++[Value.slice none 0 0]).getD k (.slice none 0 0)= .slice none 0 0∧(ls++[[]]).getD k []=[]:=fun k hk=>by
  subst hk
  constructor
  ·rw [← h.rows.len];simp [lD]
  ·simp [lD]
 have hap:Apart w (w4.setCell ⟨g,0,none⟩ (.slice (some ⟨bl',0,none⟩) (ls.length+1) cap')):=fun q c T f hq h9 h47 hT=>by
  have h1:w4.heap[q]? =some (.cells c T f):=(hc.other q (gS hq).1 (fun _ e=>by
   subst e
   exact not_row_of h.row hq h47 rfl)).trans hq
  refine (Go.RowKit.Below.heap_setCell _ _ _ _ (fun e=> ?_)).trans h1
  simp only at e
  rw [e,hbox4] at h1
  cases h1
  exact hT rfl
 refine ⟨cr hbox4,frozen_of_row _ _ _ _ _ hbox4,⟨?_,h.base,?_,?_⟩,?_,hap⟩
 ·rw [heap_setCell_same _ _ _ _ _ _ hbox4,List.length_append]
  rfl
 ·rw [List.length_append]
  exact hkeep hown (by decide)
 ·refine ⟨by rw [List.length_append,List.length_append,h.rows.len];rfl,fun j hj=> ?_,fun i j hi hj hne b=> ?_⟩
  ·rw [List.length_append,List.length_singleton] at hj
   by_cases e:j<ls.length
   ·rw [(hg0 j e).1,(hg0 j e).2]
    refine hkeep (ownsRow_keepM (h.rows.own j e) hc (fun q hq _ he=> ?_)) (by decide)
    subst he
    exact rows_apart (h.rows.own j e) h.row (by decide) hq rfl
   ·have e2:j=ls.length:=by omega
    rw [(hg1 j e2).1,(hg1 j e2).2]
    exact ⟨rfl,.inl ⟨rfl,rfl⟩⟩
  ·rw [List.length_append,List.length_singleton] at hi hj
   by_cases ei:i<ls.length
   ·rw [(hg0 i ei).1]
    by_cases ej:j<ls.length
    ·rw [(hg0 j ej).1]
     exact h.rows.apart i j ei ej hne b
    ·rw [(hg1 j (by omega)).1]
     intro _ h2
     cases h2
   ·rw [(hg1 i (by omega)).1]
    intro h1
    cases h1
 ·refine hb4.trans ((Chg.setCell1 (M:=fun q _=>q=g) _ _ _ _ rfl).below (Nat.le_trans hB hb4.size) (fun q i hq e=> ?_))
  have:=h.base
  omega
theorem treeNew_any (w:World):Calls Tryz.prog 79 #[] w fun e w'=> ∃g,e= .returned (.pointer (some ⟨g,0,none⟩))∧w.heap.size≤g∧TreeAt w' w.heap.size g [[]]∧Below w.heap.size w w':=by
 go_enter Tryz.func79,Tryz.ntmps79
 go_wp2_with fail
 go_ret
 have hb:Below w.heap.size w ((w.alloc (.cells #[.slice none 0 0] 43)).alloc (.cells #[.slice (some ⟨w.heap.size,0,none⟩) 1 1] 241)):=((Below.refl _ _).alloc (Nat.le_refl _) _).alloc (by simp) _
 have h1:((w.alloc (.cells #[.slice none 0 0] 43)).alloc (.cells #[.slice (some ⟨w.heap.size,0,none⟩) 1 1] 241)).heap[w.heap.size]? =some (.cells #[.slice none 0 0] 43 (0,0)):=(heap_alloc_old _ _ (by simp)).trans (heap_alloc_new w _)
 have h2:((w.alloc (.cells #[.slice none 0 0] 43)).alloc (.cells #[.slice (some ⟨w.heap.size,0,none⟩) 1 1] 241)).heap[w.heap.size+1]? =some (.cells #[.slice (some ⟨w.heap.size,0,none⟩) 1 1] 241 (0,0)):=by
  have h:=heap_alloc_new (w.alloc (.cells #[.slice none 0 0] 43)) (.cells #[.slice (some ⟨w.heap.size,0,none⟩) 1 1] 241)
  rwa [World.size_alloc] at h
 refine ⟨w.heap.size+1,by first | rfl | simp,by omega,⟨w.heap.size,1,[.slice none 0 0],h2,by omega,⟨rfl,.inr ⟨_,1,_,rfl,Nat.le_refl _,h1,Nat.le_refl _,by decide,rfl,rfl⟩⟩,rfl,fun k hk=> ?_,fun i j hi hj hne=> ?_⟩,hb⟩
 ·have e:k=0:=by simp at hk;exact hk
  subst e
  exact ⟨rfl,.inl ⟨rfl,rfl⟩⟩
 ·simp at hi hj
  omega
theorem treeLen_any (B g:Nat) (ls:List (List ByteArray)) (h0:0<ls.length) (n:Nat) (hn:(ls.getD 0 []).length=n) (w:World) (hT:TreeAt w B g ls):
    Calls Tryz.prog 176 #[.pointer (some ⟨g,0,none⟩)] w fun e w'=>e= .returned (.int .i64 (n:Int))∧w=w':=by
 obtain ⟨bl,cap,rows,hT⟩:=hT
 obtain ⟨a,c,hc1,_⟩:=hT.level 0 h0
 have hc0:=hT.cell.1
 rw [hn] at hc1
 obtain ⟨m,hm⟩:=ex_eq ls.length
 rw [hm] at hc0 h0
 have hne:((m:Int)==0)=false:=by rw [beq_eq_false_iff_ne];omega
 have h0i:(0:Int)<(m:Int):=by omega
 clear hT hn hm
 go_enter Tryz.func176,Tryz.ntmps176
 go_wp2_with fail
 go_ret
 exact ⟨rfl,rfl⟩
def TreeOf (ls:List (List ByteArray)) (L:List (List Nat)):Prop:=1≤ls.length∧L.length<2 ^ ls.length∧ ∀k,k<ls.length→(ls.getD k []).map nb=Mrk.level k L
theorem Tryz.infoSl:(Tryz.prog.info? 43).map (fun i=>(i.zero,i.size,i.bytes))=some (some (.slice none 0 0),1,24):=by kernel_rfl
theorem treeOf_nil:TreeOf [[]] []:=⟨Nat.le_refl _,by decide,fun k hk=>by
 have e:k=0:=by simp at hk;exact hk
 subst e
 rfl⟩
theorem level_of_small (k:Nat) (L:List (List Nat)) (h:L.length<2 ^ k):Mrk.level k L=[]:=by
 refine List.eq_nil_of_length_eq_zero ?_
 rw [Mrk.level_length,Nat.div_eq_of_lt h]
theorem succ_div {m p q:Nat} (hp:0<p) (hq:m+1=p*q):m/p+1=q∧(m+1)/p=q:=by
 have h1:(m+1)/p=q:=by rw [hq];exact Nat.mul_div_cancel_left _ hp
 refine ⟨?_,h1⟩
 have hq0:0<q:=by
  rcases Nat.eq_zero_or_pos q with e | e
  ·rw [e] at hq;omega
  ·exact e
 have h2:m/p=q - 1:=by
  rw [Nat.div_eq_iff hp]
  obtain ⟨q',rfl⟩: ∃q',q=q'+1:=⟨q - 1,by omega⟩
  rw [Nat.mul_add,Nat.mul_one] at hq
  rw [Nat.add_sub_cancel,Nat.mul_comm]
  omega
 omega
theorem div_stay {m k q j:Nat} (hq:m+1=2 ^ k*q) (ho:q % 2=1) (hj:k<j):(m+1)/2 ^ j=m/2 ^ j:=by
 obtain ⟨i,rfl⟩: ∃i,j=k+(i+1):=⟨j - k - 1,by omega⟩
 have h:=succ_div (Nat.two_pow_pos k) hq
 rw [Nat.pow_add,← Nat.div_div_eq_div_mul,← Nat.div_div_eq_div_mul,h.2,Nat.pow_succ,Nat.mul_comm,← Nat.div_div_eq_div_mul,← Nat.div_div_eq_div_mul]
 congr 1
 omega
def Mid (ls:List (List ByteArray)) (L:List (List Nat)) (x:List Nat) (k:Nat):Prop:= ∀j,j<ls.length→(ls.getD j []).map nb=if j<k then Mrk.level j (L++[x]) else Mrk.level j L
def blk (L:List (List Nat)) (x:List Nat) (k:Nat):List Nat:=Mrk.root k (((L++[x]).drop (L.length/2 ^ k*2 ^ k)).take (2 ^ k))
theorem blk_zero (L:List (List Nat)) (x:List Nat):blk L x 0=x:=by
 unfold blk
 rw [Mrk.root,Nat.pow_zero,Nat.div_one,Nat.mul_one,List.drop_append_of_le_length (Nat.le_refl _)]
 simp
theorem mid_push {ls:List (List ByteArray)} {L:List (List Nat)} {x:List Nat} {k q:Nat} (h:Mid ls L x k) (hk:k<ls.length) (hq:L.length+1=2 ^ k*q) (r:ByteArray) (hr:nb r=blk L x k):Mid (ls.set k (ls.getD k []++[r])) L x (k+1):=by
 intro j hj
 rw [List.length_set] at hj
 have hd:=succ_div (Nat.two_pow_pos k) hq
 by_cases e:j=k
 ·subst e
  rw [getD_set_same _ _ _ _ hk,if_pos (Nat.lt_succ_self _),List.map_append,h j hk,if_neg (Nat.lt_irrefl _),Mrk.level_grow _ _ _ (by omega)]
  show _++[nb r]=_
  rw [hr]
  rfl
 ·rw [getD_set_ne _ _ _ _ _ (Ne.symm e),h j hj]
  by_cases e2:j<k
  ·rw [if_pos e2,if_pos (by omega)]
  ·rw [if_neg e2,if_neg (by omega)]
theorem mid_done {ls:List (List ByteArray)} {L:List (List Nat)} {x:List Nat} {k q:Nat} (h:Mid ls L x (k+1)) (h1:1≤ls.length) (hk:k<ls.length) (hl:L.length+1<2 ^ ls.length) (hq:L.length+1=2 ^ k*q) (ho:q % 2=1):TreeOf ls (L++[x]):=by
 refine ⟨h1,by rw [List.length_append];exact hl,fun j hj=> ?_⟩
 rw [h j hj]
 by_cases e:j<k+1
 ·rw [if_pos e]
 ·rw [if_neg e,Mrk.level_stay _ _ _ (div_stay hq ho (by omega))]
theorem mid_len {ls:List (List ByteArray)} {L:List (List Nat)} {x:List Nat} {k q:Nat} (h:Mid ls L x (k+1)) (hk:k<ls.length) (hq:L.length+1=2 ^ k*q):(ls.getD k []).length=q:=by
 have h1:=congrArg List.length (h k hk)
 rw [List.length_map,if_pos (Nat.lt_succ_self _),Mrk.level_length,List.length_append,List.length_singleton,(succ_div (Nat.two_pow_pos k) hq).2] at h1
 exact h1
theorem mid_prev {ls:List (List ByteArray)} {L:List (List Nat)} {x:List Nat} {k p:Nat} (h:Mid ls L x (k+1)) (hk:k<ls.length) (hq:L.length+1=2 ^ k*(2*(p+1))) (y r:ByteArray) (hy:(ls.getD k []).getD (2*p) ByteArray.empty=y) (hr:nb r=blk L x k):
    Mrk.node (nb y) (nb r)=blk L x (k+1):=by
 have hd:=succ_div (Nat.two_pow_pos k) hq
 have hp:L.length/2 ^ (k+1)=p:=by
  rw [Nat.pow_succ,← Nat.div_div_eq_div_mul]
  omega
 have hlen:=mid_len h hk hq
 have h1:=congrArg (fun l=>l.getD (2*p) []) (h k hk)
 simp only [if_pos (Nat.lt_succ_self k)] at h1
 rw [getD_map _ _ (by rw [hlen];omega),hy,Mrk.level_getD _ _ _ (by rw [List.length_append,List.length_singleton,hd.2];omega)] at h1
 unfold blk
 rw [hp,Mrk.root_block,h1,hr]
 unfold blk
 rw [show L.length/2 ^ k=2*p+1 by omega]
section
variable {ops:Array Oper} {rest:List Oper} {o:Oper} {a:Act} {Q:Exit→Act→World→Prop} {K:Act→World→Prop}
theorem wp_app_strAt {w0:World} (s x:Operand) (ho:o.op= .call { callee:= .builtin .append,args:= #[s,x],argTypes:= #[43, 43] })
    (base:Nat) (v:Value) (L:Nat) (cur:List ByteArray) (hs:a.eval s=v) (hown:w0.ownsRow base 9 1 v L (strV cur)) (hb:base≤w0.heap.size) (hL:L≤1000000000000)
    (b:ByteArray) (c:Nat) (hx:a.eval x= .slice (some ⟨w0.heap.size,0,none⟩) 1 c)
    (h: ∀v' w',w'.ownsRow base 9 1 v' (L+1) (strV (cur++[b]))→(w0.alloc (.cells #[.string b] 9)).grownBy w' v.ownBlock→(v'.ownBlock=v.ownBlock∨v'.ownBlock=some (w0.alloc (.cells #[.string b] 9)).heap.size)→K (a.put o.dst v') w'):o.wp Tryz.prog a (w0.alloc (.cells #[.string b] 9)) K Q:=by
 obtain ⟨i0,hi,hz0,hz1,hz2⟩:=info_parts Tryz.info9
 obtain ⟨v',w',hr,h2,h3,h4,h5⟩:=run_append_own_at (P:= Tryz.prog) (w0.alloc (.cells #[.string b] 9)) base 43 o.type 9 i0 (.string ByteArray.empty) 1 16 Tryz.underlying43 hi hz0 hz1 hz2 rfl (by decide) v L (strV cur) (hown.alloc _) ⟨w0.heap.size,0,none⟩ 1 c [.string b] rfl (cell_one_new _ _ _) (by simp [Value.oneCell']) (by unfold maxLen;omega) (by omega) (by simp;omega)
 unfold Oper.wp execOp
 simp only [ho,resolve,invoke,builtin,Sem.run_bind,Sem.run_pure,Result.andThen_ok,List.map_toArray,List.map_cons,List.map_nil,hs,hx,hr]
 exact h v' w' (by rw [strV_app];exact h2) h3 h5
theorem app_nilrow {w0:World} (hgd:o.guard=none) (s x:Operand) (ho:o.op= .call { callee:= .builtin .append,args:= #[s,x],argTypes:= #[239, 239] })
    (base:Nat) (v:Value) (L:Nat) (rows:List Value) (hs:a.eval s=v) (hown:w0.ownsRow base 43 1 v L rows) (hb:base≤w0.heap.size) (hL:L≤1000000000000)
    (c:Nat) (hx:a.eval x= .slice (some ⟨w0.heap.size,0,none⟩) 1 c)
    (h: ∀bl' cap' w',w'.ownsRow base 43 1 (.slice (some ⟨bl',0,none⟩) (L+1) cap') (L+1) (rows++[.slice none 0 0])→(w0.alloc (.cells #[.slice none 0 0] 43)).grownBy w' v.ownBlock→wpList Tryz.prog ops Q rest (a.put o.dst (.slice (some ⟨bl',0,none⟩) (L+1) cap')) w'):wpList Tryz.prog ops Q (o::rest) a (w0.alloc (.cells #[.slice none 0 0] 43)):=by
 obtain ⟨i0,hi,hz0,hz1,hz2⟩:=info_parts Tryz.infoSl
 refine wpList_append_own _ hgd s x 239 ho base 43 i0 (.slice none 0 0) 1 24 Tryz.underlying239 hi hz0 hz1 hz2 rfl (by decide) v L rows hs (hown.alloc _) ⟨w0.heap.size,0,none⟩ 1 c [.slice none 0 0] hx rfl (cell_one_new _ _ _) (by simp [Value.oneCell']) (by unfold maxLen;omega) (by omega) (by simp;omega) ?_
 intro v' w4 hown4 hgr4 _
 obtain ⟨g,cap,rfl⟩: ∃g cap,v'= .slice (some ⟨g,0,none⟩) (L+1) cap:=by
  rcases hown4.2 with ⟨_,h0⟩ | ⟨g,cap,cur,e,_⟩
  ·omega
  ·exact ⟨g,cap,e⟩
 exact h g cap w4 hown4 hgr4
end
theorem odd_fit {m k n q:Nat} (ho:q % 2=1) (hk:k<n) (hq:m+1=2 ^ k*q):m+1≠2 ^ n:=by
 intro e
 obtain ⟨i,rfl⟩: ∃i,n=k+(i+1):=⟨n - k - 1,by omega⟩
 rw [hq,Nat.pow_add] at e
 have h:=Nat.eq_of_mul_eq_mul_left (Nat.two_pow_pos k) e
 rw [h,Nat.pow_succ] at ho
 omega
theorem levels_size {ls:List (List ByteArray)} {L:List (List Nat)} {x:List Nat} {k:Nat} (h:Mid ls L x (k+1)) (hk:k<ls.length) (hL: ∀y ∈ L,y.length=32) (hx:x.length=32) (i:Nat) (hi:i<(ls.getD k []).length) (y:ByteArray) (hy:(ls.getD k []).getD i ByteArray.empty=y):y.size=32:=by
 have h1:=congrArg (fun l=>l.getD i []) (h k hk)
 have hlen:=congrArg List.length (h k hk)
 simp only [if_pos (Nat.lt_succ_self k)] at h1 hlen
 rw [List.length_map,Mrk.level_length] at hlen
 rw [getD_map _ _ hi,hy,Mrk.level_getD _ _ _ (by omega)] at h1
 rw [← nb_length,h1]
 refine Mrk.root_len k _ ?_ fun z hz=> ?_
 ·rw [List.length_take,List.length_drop]
  have h2:(i+1)*2 ^ k≤(L++[x]).length:=Nat.le_trans (Nat.mul_le_mul_right _ (by omega:i+1≤(L++[x]).length/2 ^ k)) (Nat.div_mul_le_self _ _)
  rw [Nat.add_mul,Nat.one_mul] at h2
  have h3:0<2 ^ k:=Nat.two_pow_pos k
  omega
 ·have hz2:=List.mem_of_mem_drop (List.mem_of_mem_take hz)
  rcases List.mem_append.1 hz2 with h3 | h3
  ·exact hL z h3
  ·rw [List.mem_singleton.1 h3];exact hx
theorem add_ok (B g:Nat) (ls:List (List ByteArray)) (L:List (List Nat)) (hOf:TreeOf ls L) (h32: ∀y ∈ L,y.length=32) (hl:L.length≤500) (leaf:ByteArray) (hs:leaf.size=32) (w:World) (hT:TreeAt w B g ls) (hB:B≤w.heap.size) (hLD: ∀V,Below B w V→Laid V):
    Calls Tryz.prog 82 #[.pointer (some ⟨g,0,none⟩),.string leaf] w fun e w'=>e= .returned (.tuple #[.int .i64 (L.length:Int),.int .i64 0])∧(∃ls',TreeAt w' B g ls'∧TreeOf ls' (L++[nb leaf]))∧Below B w w'∧Apart w w':=by
 obtain ⟨hn1,hfit,hlv⟩:=hOf
 have HIS:=hid (fun w=>isSumM_any leaf w)
 rw [decide_eq_true hs] at HIS
 have HLEN:Hid (∀w,TreeAt w B g ls→Calls Tryz.prog 176 #[.pointer (some ⟨g,0,none⟩)] w fun e w'=>e= .returned (.int .i64 (L.length:Int))∧w=w'):=hid (fun w hT=>treeLen_any B g ls hn1 L.length (by
  have h:=congrArg List.length (hlv 0 hn1)
  rwa [List.length_map,Mrk.level_zero] at h) w hT)
 have HLD:=hid hLD
 have HBW:=hid hB
 have HT:=hid hT
 have HMI0:Hid (Mid ls L (nb leaf) 0):=hid (fun j hj=>by rw [if_neg (Nat.not_lt_zero _)];exact hlv j hj)
 have H32:Hid (∀(w5:World) (ly:List (List ByteArray)) (y:ByteArray) (k i:Nat),(ly.getD k []).getD i ByteArray.empty=y→i<(ly.getD k []).length→Mid ly L (nb leaf) (k+1)→k<ly.length→y.size=32):=hid (fun _ ly y k i hy hi hm hk=>levels_size hm hk h32 (by rw [nb_length];exact hs) i hi y hy)
 obtain ⟨n0,hn0⟩:=ex_eq ls.length
 rw [hn0] at hn1 hfit
 have HN0:=hid hn0
 have HFIT:=hid hfit
 have hbl0:=blk_zero L (nb leaf)
 have HB0:=hid hbl0
 have hL8: ¬(1048576:Int)≤(L.length:Int):=by omega
 have hL7:(L.length:Int)<(1048576:Int):=by omega
 have HS:=hid hs
 clear hlv hLD hB hT h32 hn0 hfit hbl0 hs
 go_enter Tryz.func82,Tryz.ntmps82
 go_upto_region 3 with (first
  | (go_at_call 120
     (refine (HIS.o _).mono ?_)
     rintro e w2 ⟨rfl,rfl⟩))
 go_upto_region 4 with (first
  | (go_at_call 176
     (refine (HLEN.o _ HT.o).mono ?_)
     rintro e w3 ⟨rfl,rfl⟩))
 have hge:((1048576:Int)≤(L.length:Int))=False:=eq_false (by omega)
 have HL5:=hid hl
 clear hl hL8 hL7
 go_upto_region 6 with fail
 go_upto_region 7 with fail
 go_wp2_with fail
 go_loopw [7,8] (fun rv kv wr=> ∃(k:Nat) (r:ByteArray) (lx:List (List ByteArray)) (q:Nat),kv= .int .i64 (k:Int)∧rv= .string r∧r.size=32∧k≤n0∧lx.length=n0∧Hid (nb r=blk L (nb leaf) k)∧Hid (TreeAt wr B g lx)∧Hid (Mid lx L (nb leaf) k)∧Hid (L.length+1=2 ^ k*q)∧Hid (Below B w wr)∧Hid (Apart w wr)) (fun _ kv _=>n0 - (intOf kv).toNat)
 case atStart=>exact ⟨0,leaf,ls,L.length+1,rfl,rfl,HS.o,Nat.zero_le _,HN0.o,HB0.o.symm,HT.o,HMI0.o,(Nat.one_mul _).symm,Below.refl _ _,Apart.refl _⟩
 case round=>
  obtain ⟨k,r,l0,q,rfl,rfl,hr32,hkn,hln,HRR,HT0,HMI0,HQ,HBX0,HAX0⟩:=hrel
  have hk9:k≤1000:=by
   have h1:=HQ.o
   have h2:2 ^ k≤2 ^ k*q:=by
    refine Nat.le_mul_of_pos_right _ ?_
    rcases Nat.eq_zero_or_pos q with e | e
    ·rw [e,Nat.mul_zero] at h1;omega
    ·exact e
   have h3:=Nat.lt_two_pow_self (n:=k)
   have h5:=HL5.o
   omega
  have HR32:=hid hr32
  have HLN:=hid hln
  by_cases hke:k=n0
  ·have HKE:=hid hke
   obtain ⟨bl0,cap0,rows0,hR0⟩:=HT0.o
   have hg00:=hR0.cell.1
   rw [hln] at hg00
   have HR0:=hid hR0
   have hkei:((k:Int)==(n0:Int))=true:=by rw [hke];simp
   have hrow0:wr.ownsRow B 43 1 (.slice (some ⟨bl0,0,none⟩) n0 cap0) n0 rows0:=by have h:=hR0.row;rw [hln] at h;exact h
   have HROW0:=hid hrow0
   have hn9:n0≤1000:=by
    have h1:=HQ.o
    rw [hke] at h1
    have h2:2 ^ n0≤2 ^ n0*q:=by
     refine Nat.le_mul_of_pos_right _ ?_
     rcases Nat.eq_zero_or_pos q with e | e
     ·rw [e,Nat.mul_zero] at h1;omega
     ·exact e
    have h3:=Nat.lt_two_pow_self (n:=n0)
    have h5:=HL5.o
    omega
   clear hR0 hrow0 hke
   go_upto_region 11 with (first
    | (at_builtin
       refine app_nilrow rfl _ _ rfl B _ n0 rows0 (by rfl) HROW0.o (by have:=HBX0.o.size;have:=HBW.o;omega) (by omega) 1 (by rfl) ?_
       intro bl1 cap1 w1 hown1 hgr1
       have hown1':w1.ownsRow B 43 1 (.slice (some ⟨bl1,0,none⟩) (l0.length+1) cap1) (l0.length+1) (rows0++[.slice none 0 0]):=by rw [HLN.o];exact hown1
       obtain ⟨f1,f2,f3,f4,f5⟩:=tree_level HR0.o (by have:=HBX0.o.size;have:=HBW.o;omega) hown1' hgr1
       rw [HLN.o] at f1 f3 f4 f5
       have HT1:=hid f3
       have HB1:=hid f4
       have HA1:=hid f5
       clear f3 f4 f5 hown1 hown1' hgr1 hg00))
   clear f1 f2
   obtain ⟨wx,hwx⟩:=ex_eq (w1.setCell ⟨g,0,none⟩ (.slice (some ⟨bl1,0,none⟩) (n0+1) cap1))
   rw [hwx] at HT1 HB1 HA1 ⊢
   clear hwx
   obtain ⟨lx,hlx⟩:=ex_eq (l0++[[]])
   have HTX:Hid (TreeAt wx B g lx):=hid (by rw [← hlx];exact ⟨_,_,_,HT1.o⟩)
   have HBX:Hid (Below B w wx):=hid (HBX0.o.trans HB1.o)
   have HAX:=hid (HAX0.o.trans HA1.o)
   have hkx:k<lx.length:=by rw [← hlx,List.length_append,hln];have:=HKE.o;simp;omega
   have HMI:Hid (Mid lx L (nb leaf) k):=hid (by
    intro j hj
    rw [← hlx,List.length_append,List.length_singleton,hln] at hj
    rw [← hlx]
    by_cases e:j<n0
    ·rw [lD,List.getElem?_append_left (by rw [hln];exact e),← lD]
     exact HMI0.o j (by rw [hln];exact e)
    ·have e2:j=n0:=by omega
     rw [lD,List.getElem?_append_right (by rw [hln];omega),hln,e2,Nat.sub_self,if_neg (by have:=HKE.o;omega),level_of_small _ _ HFIT.o]
     rfl)
   have hq1:q=1:=by
    have h1:=HQ.o
    rw [HKE.o] at h1
    have h2:=HFIT.o
    have h3:2 ^ n0*q≤2 ^ n0*1:=by omega
    have h4:=Nat.le_of_mul_le_mul_left h3 (Nat.two_pow_pos n0)
    rcases Nat.eq_zero_or_pos q with e | e
    ·rw [e,Nat.mul_zero] at h1;omega
    ·omega
   have HODD:Hid (q % 2=1):=hid (by rw [hq1])
   have HLXN:Hid (lx.length=n0+1):=hid (by rw [← hlx,List.length_append,hln];rfl)
   have HFIT1:Hid (L.length+1<2 ^ lx.length):=hid (by rw [HLXN.o,Nat.pow_succ];have:=HFIT.o;have:=Nat.two_pow_pos n0;omega)
   have HFIT0:=HFIT
   have HFIT:Hid (∀n,lx.length=n→L.length+1<2 ^ n):=hid (fun n hn=>by rw [← hn];exact HFIT1.o)
   clear hlx hq1 HMI0
   obtain ⟨bl,cap,rows,hR⟩:=HTX.o
   have HR:=hid hR
   have hvk:=hR.rows.own k hkx
   have hrc:=(ownsRow_free hR.row k hkx (.slice none 0 0)).1
   have hg0:=hR.cell.1
   obtain ⟨nx,hnx⟩:=ex_eq lx.length
   rw [hnx] at hg0 hkx
   have HNX:=hid hnx
   have hkxi:(k:Int)<(nx:Int):=by omega
   obtain ⟨vk,hvke⟩:=ex_eq (rows.getD k (.slice none 0 0))
   rw [hvke] at hrc
   have HVKE:=hid hvke
   have HVK:=hid hvk
   obtain ⟨mk,hmk⟩:=ex_eq (lx.getD k []).length
   have HMK:=hid hmk
   have hmk2:mk≤1000:=by
    have h1:=congrArg List.length (HMI.o k (by have:=HNX.o;omega))
    rw [List.length_map,if_neg (Nat.lt_irrefl _),Mrk.level_length] at h1
    have h2:=Nat.div_le_self L.length (2 ^ k)
    have h5:=HL5.o
    omega
   clear hR hvk hnx hvke hmk
   go_upto_region 11 with fail
   refine Kit.wp_region_headsL (fun V=>V.cell? ⟨g,0,none⟩=some (.slice (some ⟨bl,0,none⟩) nx cap)∧V.cell? ⟨bl,k,none⟩=some vk) 16 [0,1,2,3,4,5,6,7,8,9,10,11,12] [13,14,15,16] (by kernel_rfl) (by kernel_rfl) (by kernel_rfl) (by kernel_rfl) ⟨hg0,hrc⟩ ?_
   iterate 13 (refine Kit.heads_cons (by rfl) (.inl ⟨by rfl,fun w' hS=>by (dsimp only at hS);go_simp;(try with_reducible rfl)⟩) ?_;simp only [Act.put,List.setIfInBounds_toArray,List.set_cons_zero,List.set_cons_succ])
   refine Kit.heads_nil ?_
   refine Kit.chainL_cons (by rfl) rfl fun K hK=> ?_
   go_simp
   have HWD:Hid (B≤wx.drew.heap.size):=hid (by have:=HBX.o.size;have:=HBW.o;show B≤wx.heap.size;omega)
   have hcn: ∀{b:Nat} {i:Nat} {u:Value},wx.cell? ⟨b,i,none⟩=some u→(wx.drew.alloc (.cells #[.string r] 9)).cell? ⟨b,i,none⟩=some u:=fun h=>(((Below.refl _ wx).drew.alloc (Nat.le_refl _) _).cell (World.block_lt_of_cell? wx _ h)).trans h
   refine hK _ _ (fun _=>⟨hcn hg0,hcn hrc⟩) ?_
   clear hK K hcn
   refine Kit.chainL_cons (by rfl) rfl fun K hK=> ?_
   refine wp_app_strAt (w0:=wx.drew) (.tmp 47) (.tmp 49) (by rfl) B vk mk (lx.getD k []) (by rfl) (by have h:=own_later HVK.o (Below.refl _ wx).drew;rw [HVKE.o,HMK.o] at h;exact h) HWD.o (by omega) r 1 (by rfl) ?_
   intro v4 w4 hown4 hgr4 hat4
   obtain ⟨b4,c4,rfl⟩: ∃b c,v4= .slice (some ⟨b,0,none⟩) (mk+1) c:=by
    rcases hown4.2 with ⟨_,h0⟩ | ⟨b,c,cur,e,_⟩
    ·omega
    ·exact ⟨b,c,e⟩
   have hRd:=HR.o.later (Below.refl _ wx).drew
   obtain ⟨f1,f2,f3,f4,f5,f6⟩:=tree_push hRd HWD.o k (by have:=HNX.o;omega) r (by rw [HMK.o];exact hown4) (by rw [HVKE.o];exact hgr4) (by rw [HVKE.o];exact hat4)
   rw [HNX.o] at f1
   rw [HVKE.o] at f2
   have HR5:=hid f4
   have H5:Hid (Below B w (w4.setCell ⟨bl,k,none⟩ (.slice (some ⟨b4,0,none⟩) (mk+1) c4))):=hid (HBX.o.trans ((Below.refl _ wx).drew.trans f5))
   have HW5:Hid (wx.heap.size≤(w4.setCell ⟨bl,k,none⟩ (.slice (some ⟨b4,0,none⟩) (mk+1) c4)).heap.size):=hid f5.size
   have HA5:=hid (HAX.o.trans ((Apart.of_below (Below.refl _ wx).drew).trans f6))
   clear f4 f5 f6 hown4 hgr4 hat4 hRd hg0 hrc
   refine hK _ _ (fun _=>⟨f1,f2⟩) ?_
   clear hK K
   (try simp only [Act.put,List.setIfInBounds_toArray,List.set_cons_zero,List.set_cons_succ])
   refine Kit.chainL_cons (by rfl) rfl fun K hK=> ?_
   go_simp
   refine hK _ _ (fun _=>⟨f1,f2⟩) ?_
   clear hK K
   (try simp only [Act.put,List.setIfInBounds_toArray,List.set_cons_zero,List.set_cons_succ])
   refine Kit.chainL_cons (by rfl) rfl fun K hK=> ?_
   go_simp
   refine hK _ _ (fun h=>absurd rfl h) (Kit.chainL_done ?_)
   clear hK K f1 f2 f3
   (try simp only [Act.put,List.setIfInBounds_toArray,List.set_cons_zero,List.set_cons_succ])
   obtain ⟨ly,hly⟩:=ex_eq (lx.set k (lx.getD k []++[r]))
   have HLY:=hid hly
   have HMY:Hid (Mid ly L (nb leaf) (k+1)):=hid (by rw [← hly];exact mid_push HMI.o (by have:=HNX.o;omega) HQ.o r HRR.o)
   have HLYN:Hid (ly.length=nx):=hid (by rw [← hly,List.length_set];exact HNX.o)
   have HQL:=hid (mid_len HMY.o (by have:=HLYN.o;omega) HQ.o)
   rw [hly] at HR5
   clear hly
   obtain ⟨rows5,hrows5⟩:=ex_eq (rows.set k (.slice (some ⟨b4,0,none⟩) (mk+1) c4))
   rw [hrows5] at HR5
   clear hrows5
   obtain ⟨w5,hw5⟩:=ex_eq (w4.setCell ⟨bl,k,none⟩ (.slice (some ⟨b4,0,none⟩) (mk+1) c4))
   rw [hw5] at HR5 H5 HW5 HA5 ⊢
   clear hw5
   have HT5:Hid (TreeAt w5 B g ly):=hid ⟨bl,cap,rows5,HR5.o⟩
   have hg5:=HR5.o.cell.1
   rw [HLYN.o] at hg5
   obtain ⟨a6,c6,hc6,hS6⟩:=HR5.o.level k (by rw [HLYN.o];exact hkx)
   rw [HQL.o] at hc6
   have HS6:=hid hS6
   clear hS6
   have hq9:q≤1001:=by
    have h1:=HQ.o
    have h2:q≤2 ^ k*q:=Nat.le_mul_of_pos_left _ (Nat.two_pow_pos k)
    have h5:=HL5.o
    omega
   have hrm:(q:Int).tmod 2=1:=by rw [Int.tmod_eq_emod_of_nonneg (by omega)];have:=HODD.o;omega
   go_wp2_with fail
   go_ret2
   exact ⟨by first | rfl | simp,⟨ly,HT5.o,mid_done HMY.o (by rw [HLYN.o];omega) (by rw [HLYN.o];exact hkx) (by rw [HLYN.o];exact HFIT.o nx HNX.o) HQ.o HODD.o⟩,H5.o,HA5.o⟩
  ·have hk2:k<n0:=by omega
   have HKN:=hid hk2
   have hkei:((k:Int)==(n0:Int))=false:=by rw [beq_eq_false_iff_ne];omega
   obtain ⟨bl0,cap0,rows0,hR0⟩:=HT0.o
   have hg00:=hR0.cell.1
   rw [hln] at hg00
   clear hR0 hke
   go_upto_region 11 with fail
   clear hg00
   obtain ⟨wx,hwx⟩: ∃t,t=wr:=⟨_,rfl⟩
   subst hwx
   obtain ⟨lx,hlx⟩: ∃t,t=l0:=⟨_,rfl⟩
   subst hlx
   have HTX:=HT0
   have HBX:=HBX0
   have HAX:=HAX0
   have HMI:=HMI0
   have hkx:k<lx.length:=by rw [hln];exact hk2
   obtain ⟨bl,cap,rows,hR⟩:=HTX.o
   have HR:=hid hR
   have hvk:=hR.rows.own k hkx
   have hrc:=(ownsRow_free hR.row k hkx (.slice none 0 0)).1
   have hg0:=hR.cell.1
   obtain ⟨nx,hnx⟩:=ex_eq lx.length
   rw [hnx] at hg0 hkx
   have HNX:=hid hnx
   have hkxi:(k:Int)<(nx:Int):=by omega
   obtain ⟨vk,hvke⟩:=ex_eq (rows.getD k (.slice none 0 0))
   rw [hvke] at hrc
   have HVKE:=hid hvke
   have HVK:=hid hvk
   obtain ⟨mk,hmk⟩:=ex_eq (lx.getD k []).length
   have HMK:=hid hmk
   have hmk2:mk≤1000:=by
    have h1:=congrArg List.length (HMI.o k (by have:=HNX.o;omega))
    rw [List.length_map,if_neg (Nat.lt_irrefl _),Mrk.level_length] at h1
    have h2:=Nat.div_le_self L.length (2 ^ k)
    have h5:=HL5.o
    omega
   clear hR hvk hnx hvke hmk
   go_upto_region 11 with fail
   refine Kit.wp_region_headsL (fun V=>V.cell? ⟨g,0,none⟩=some (.slice (some ⟨bl,0,none⟩) nx cap)∧V.cell? ⟨bl,k,none⟩=some vk) 16 [0,1,2,3,4,5,6,7,8,9,10,11,12] [13,14,15,16] (by kernel_rfl) (by kernel_rfl) (by kernel_rfl) (by kernel_rfl) ⟨hg0,hrc⟩ ?_
   iterate 13 (refine Kit.heads_cons (by rfl) (.inl ⟨by rfl,fun w' hS=>by (dsimp only at hS);go_simp;(try with_reducible rfl)⟩) ?_;simp only [Act.put,List.setIfInBounds_toArray,List.set_cons_zero,List.set_cons_succ])
   refine Kit.heads_nil ?_
   refine Kit.chainL_cons (by rfl) rfl fun K hK=> ?_
   go_simp
   have HWD:Hid (B≤wx.drew.heap.size):=hid (by have:=HBX.o.size;have:=HBW.o;show B≤wx.heap.size;omega)
   have hcn: ∀{b:Nat} {i:Nat} {u:Value},wx.cell? ⟨b,i,none⟩=some u→(wx.drew.alloc (.cells #[.string r] 9)).cell? ⟨b,i,none⟩=some u:=fun h=>(((Below.refl _ wx).drew.alloc (Nat.le_refl _) _).cell (World.block_lt_of_cell? wx _ h)).trans h
   refine hK _ _ (fun _=>⟨hcn hg0,hcn hrc⟩) ?_
   clear hK K hcn
   refine Kit.chainL_cons (by rfl) rfl fun K hK=> ?_
   refine wp_app_strAt (w0:=wx.drew) (.tmp 47) (.tmp 49) (by rfl) B vk mk (lx.getD k []) (by rfl) (by have h:=own_later HVK.o (Below.refl _ wx).drew;rw [HVKE.o,HMK.o] at h;exact h) HWD.o (by omega) r 1 (by rfl) ?_
   intro v4 w4 hown4 hgr4 hat4
   obtain ⟨b4,c4,rfl⟩: ∃b c,v4= .slice (some ⟨b,0,none⟩) (mk+1) c:=by
    rcases hown4.2 with ⟨_,h0⟩ | ⟨b,c,cur,e,_⟩
    ·omega
    ·exact ⟨b,c,e⟩
   have hRd:=HR.o.later (Below.refl _ wx).drew
   obtain ⟨f1,f2,f3,f4,f5,f6⟩:=tree_push hRd HWD.o k (by have:=HNX.o;omega) r (by rw [HMK.o];exact hown4) (by rw [HVKE.o];exact hgr4) (by rw [HVKE.o];exact hat4)
   rw [HNX.o] at f1
   rw [HVKE.o] at f2
   have HR5:=hid f4
   have H5:Hid (Below B w (w4.setCell ⟨bl,k,none⟩ (.slice (some ⟨b4,0,none⟩) (mk+1) c4))):=hid (HBX.o.trans ((Below.refl _ wx).drew.trans f5))
   have HW5:Hid (wx.heap.size≤(w4.setCell ⟨bl,k,none⟩ (.slice (some ⟨b4,0,none⟩) (mk+1) c4)).heap.size):=hid f5.size
   have HA5:=hid (HAX.o.trans ((Apart.of_below (Below.refl _ wx).drew).trans f6))
   clear f4 f5 f6 hown4 hgr4 hat4 hRd hg0 hrc
   refine hK _ _ (fun _=>⟨f1,f2⟩) ?_
   clear hK K
   (try simp only [Act.put,List.setIfInBounds_toArray,List.set_cons_zero,List.set_cons_succ])
   refine Kit.chainL_cons (by rfl) rfl fun K hK=> ?_
   go_simp
   refine hK _ _ (fun _=>⟨f1,f2⟩) ?_
   clear hK K
   (try simp only [Act.put,List.setIfInBounds_toArray,List.set_cons_zero,List.set_cons_succ])
   refine Kit.chainL_cons (by rfl) rfl fun K hK=> ?_
   go_simp
   refine hK _ _ (fun h=>absurd rfl h) (Kit.chainL_done ?_)
   clear hK K f1 f2 f3
   (try simp only [Act.put,List.setIfInBounds_toArray,List.set_cons_zero,List.set_cons_succ])
   obtain ⟨ly,hly⟩:=ex_eq (lx.set k (lx.getD k []++[r]))
   have HLY:=hid hly
   have HMY:Hid (Mid ly L (nb leaf) (k+1)):=hid (by rw [← hly];exact mid_push HMI.o (by have:=HNX.o;omega) HQ.o r HRR.o)
   have HLYN:Hid (ly.length=nx):=hid (by rw [← hly,List.length_set];exact HNX.o)
   have HQL:=hid (mid_len HMY.o (by have:=HLYN.o;omega) HQ.o)
   rw [hly] at HR5
   clear hly
   obtain ⟨rows5,hrows5⟩:=ex_eq (rows.set k (.slice (some ⟨b4,0,none⟩) (mk+1) c4))
   rw [hrows5] at HR5
   clear hrows5
   obtain ⟨w5,hw5⟩:=ex_eq (w4.setCell ⟨bl,k,none⟩ (.slice (some ⟨b4,0,none⟩) (mk+1) c4))
   rw [hw5] at HR5 H5 HW5 HA5 ⊢
   clear hw5
   have HT5:Hid (TreeAt w5 B g ly):=hid ⟨bl,cap,rows5,HR5.o⟩
   have hg5:=HR5.o.cell.1
   rw [HLYN.o] at hg5
   obtain ⟨a6,c6,hc6,hS6⟩:=HR5.o.level k (by rw [HLYN.o];exact hkx)
   rw [HQL.o] at hc6
   have HS6:=hid hS6
   clear hS6
   have hq9:q≤1001:=by
    have h1:=HQ.o
    have h2:q≤2 ^ k*q:=Nat.le_mul_of_pos_left _ (Nat.two_pow_pos k)
    have h5:=HL5.o
    omega
   by_cases hodd:q % 2=1
   ·have hrm:(q:Int).tmod 2=1:=by rw [Int.tmod_eq_emod_of_nonneg (by omega)];omega
    go_wp2_with fail
    go_ret2
    exact ⟨by first | rfl | simp,⟨ly,HT5.o,mid_done HMY.o (by rw [HLYN.o];omega) (by rw [HLYN.o];exact hkx) (by rw [HLYN.o];have h1:=HFIT.o;have hne:=odd_fit hodd HKN.o HQ.o;have h3:nx=n0:=HNX.o.symm.trans HLN.o;rw [h3];omega) HQ.o hodd⟩,H5.o,HA5.o⟩
   ·have hrm:(q:Int).tmod 2=0:=by rw [Int.tmod_eq_emod_of_nonneg (by omega)];omega
    obtain ⟨p,hp⟩: ∃p,q=2*(p+1):=⟨q/2 - 1,by
     have h0:q≠0:=by
      intro e
      have h1:=HQ.o
      rw [e,Nat.mul_zero] at h1
      omega
     omega⟩
    have HP:=hid hp
    obtain ⟨b7,o7,rfl,hcs7⟩: ∃b o,a6=some ⟨b,o,none⟩∧ ∀i,i<(ly.getD k []).length→w5.cell? ⟨b,o+i,none⟩=some (.string ((ly.getD k []).getD i ByteArray.empty)):=by
     rcases HS6.o with h | h
     ·have:=HQL.o;rw [h] at this;simp at this;omega
     ·exact h
    have hy7:=hcs7 (2*p) (by rw [HQL.o];omega)
    obtain ⟨i7,hi7⟩:=ex_eq (2*p)
    rw [hi7] at hy7
    obtain ⟨y,hy⟩:=ex_eq ((ly.getD k []).getD i7 ByteArray.empty)
    rw [hy] at hy7
    have HYE:Hid ((ly.getD k []).getD (2*p) ByteArray.empty=y):=hid (by rw [hi7];exact hy)
    have hys:y.size=32:=H32.o w5 ly y k i7 hy (by rw [HQL.o];omega) HMY.o (by rw [HLYN.o];exact hkx)
    have hq2:(q:Int) - 2=(i7:Int):=by omega
    have hwq2:IntKind.i64.wrap (i7:Int)=(i7:Int):=by rw [IntKind.wrap_i64];omega
    have hi7q:(i7:Int)<(q:Int):=by omega
    have hi7n:i7<q:=by omega
    have HBK:Hid (Mrk.node (nb y) (nb r)=blk L (nb leaf) (k+1)):=hid (mid_prev HMY.o (by rw [HLYN.o];exact hkx) (by rw [← HP.o];exact HQ.o) y r HYE.o HRR.o)
    have HND:=hid (fun w hL=>node_l y r hys hr32 _ HBK.o w hL)
    clear hcs7 hy hp hi7
    go_upto_region 8 with (first
     | (go_at_call 177
        (refine (HND.o _ (HLD.o _ H5.o)).mono ?_)
        rintro e w8 ⟨u8,rfl,hu8,hz8,h8⟩
        have HU8:=hid hu8
        have HZ8:=hid hz8
        have H8:Hid (Below B w w8):=hid (H5.o.trans (h8.mono (by have:=H5.o.size;have:=HBW.o;omega)))
        have HT8:Hid (TreeAt w8 B g ly):=hid (HT5.o.later h8)
        have HA8:=hid (HA5.o.trans (Apart.of_below h8))
        clear hu8 hz8 h8))
    go_wp2_with fail
    go_roundw
    case rel=>exact ⟨k+1,u8,ly,p+1,by go_num,rfl,HZ8.o,by have:=HKN.o;omega,by rw [HLYN.o];exact HNX.o.symm.trans HLN.o,HU8.o,HT8.o,HMY.o,by show _=_;rw [HQ.o,HP.o,Nat.pow_succ,Nat.mul_assoc],H8.o,HA8.o⟩
    case measure=>simp [intOf];have:=HKN.o;omega
theorem bitLen_pow2 (l:Nat) (hl:l≤8):Lib.bitLen (2 ^ l)=l+1:=bitLen_pow ⟨l,by omega⟩
theorem part_ok (B g:Nat) (ls:List (List ByteArray)) (l:Nat) (hl8:l≤8) (hll:l<ls.length) (j:Nat) (hj:j<(ls.getD l []).length) (hj9:j≤1000) (s:ByteArray) (hs:(ls.getD l []).getD j ByteArray.empty=s) (w:World) (hT:TreeAt w B g ls):
    Calls Tryz.prog 181 #[.pointer (some ⟨g,0,none⟩),.int .i64 ((j*2 ^ l:Nat):Int),.int .i64 ((2 ^ l:Nat):Int)] w fun e w'=>e= .returned (.string s)∧Below w.heap.size w w':=by
 have hbl: ∀w,Calls Tryz.prog 235 #[.int .u64 ((2 ^ l:Nat):Int)] w fun e w'=>e= .returned (.int .i64 ((l:Int)+1))∧w'=w:=fun w=>by
  have hp:2 ^ l≤256:=Nat.pow_le_pow_right (n:=2) (by decide) hl8
  have h:=bits_Len ((2 ^ l:Nat):Int) w (Int.natCast_nonneg _) (Int.ofNat_le.2 (Nat.le_trans hp (by decide)))
  rw [Int.toNat_natCast,bitLen_pow2 l hl8,Int.natCast_add] at h
  exact h
 have hp:2 ^ l≤256:=Nat.pow_le_pow_right (n:=2) (by decide) hl8
 have hp0:0<2 ^ l:=Nat.two_pow_pos l
 have hst:j*2 ^ l≤1000*256:=Nat.mul_le_mul hj9 hp
 have hdv:j*2 ^ l/2 ^ l=j:=Nat.mul_div_cancel _ hp0
 have HBL:=hid hbl
 obtain ⟨bl,cap,rows,hR⟩:=hT
 obtain ⟨a,c,hc1,hS⟩:=hR.level l hll
 have hc0:=hR.cell.1
 obtain ⟨m,hm⟩:=ex_eq (ls.getD l []).length
 obtain ⟨b3,o3,rfl,hcs⟩: ∃b o,a=some ⟨b,o,none⟩∧ ∀i,i<(ls.getD l []).length→w.cell? ⟨b,o+i,none⟩=some (.string ((ls.getD l []).getD i ByteArray.empty)):=by
  rcases hS with h | h
  ·rw [h] at hj;simp at hj
  ·exact h
 have hc2:=hcs j hj
 rw [hs] at hc2
 rw [hm] at hc1 hj
 obtain ⟨n,hn⟩:=ex_eq ls.length
 rw [hn] at hc0 hll
 obtain ⟨P,hP⟩:=ex_eq (2 ^ l)
 rw [hP] at HBL hp hp0 hst hdv ⊢
 have HP:=hid hP
 obtain ⟨T,hTe⟩:=ex_eq (j*P)
 rw [hTe] at hst hdv ⊢
 have HTE:=hid hTe
 have hwu:IntKind.u64.wrap (P:Int)=(P:Int):=by rw [IntKind.wrap_u64];omega
 have hPn:((P:Int)==0)=false:=by rw [beq_eq_false_iff_ne];omega
 have hli:(l:Int)<(n:Int):=by omega
 have hji:(j:Int)<(m:Int):=by omega
 have HDV:=hid hdv
 have hshl:wrap64 ((2:Int) ^ l)=(P:Int):=by
  rw [show (2:Int) ^ l=((2 ^ l:Nat):Int) from (Int.natCast_pow 2 l).symm,hP]
  exact IntWalk.wrap64_in _ ⟨by omega,by omega⟩
 have hshr:(T:Int)/(2:Int) ^ l=(j:Int):=by
  rw [show (2:Int) ^ l=((2 ^ l:Nat):Int) from (Int.natCast_pow 2 l).symm,hP,← Int.natCast_ediv,hdv]
 clear hbl hR hS hcs hm hn hP hTe hdv hs
 go_enter Tryz.func181,Tryz.ntmps181
 go_upto_region 4 with (first
  | (go_at_call 235
     (refine (HBL.o _).mono ?_)
     rintro e w2 ⟨rfl,rfl⟩))
 go_upto_region 5 with fail
 refine Kit.wp_region_gplan (fun V=>V.cell? ⟨g,0,none⟩=some (.slice (some ⟨bl,0,none⟩) n cap)∧V.cell? ⟨bl,l,none⟩=some (.slice (some ⟨b3,o3,none⟩) m c)∧V.cell? ⟨b3,o3+j,none⟩=some (.string s)) [(true,0),(true,1),(true,2),(true,3),(true,4),(true,5),(true,6),(true,7),(true,8),(true,9),(true,10),(true,11),(true,12)] (by kernel_rfl) (by kernel_rfl) (by kernel_rfl) (by kernel_rfl) ⟨hc0,hc1,hc2⟩ ?_
 iterate 13 (refine Kit.ghd (h:=?_))
 refine Kit.gdn (h:=?_)
 go_wp2_with fail
 go_ret
 exact ⟨rfl,(Below.refl _ _).drew⟩
theorem part_root (B g:Nat) (ls:List (List ByteArray)) (L:List (List Nat)) (hOf:TreeOf ls L) (h32: ∀y ∈ L,y.length=32) (hL:L.length≤500) (h:Nat) (hh:h≤8) (j S P:Nat) (hS:j*2 ^ h=S) (hP:2 ^ h=P) (hj:S+P≤L.length) (w:World) (hT:TreeAt w B g ls):
    Calls Tryz.prog 181 #[.pointer (some ⟨g,0,none⟩),.int .i64 (S:Int),.int .i64 (P:Int)] w fun e w'=> ∃s:ByteArray,e= .returned (.string s)∧nb s=Mrk.root h ((L.drop S).take P)∧s.size=32∧Below w.heap.size w w':=by
 subst hS hP
 have hp0:0<2 ^ h:=Nat.two_pow_pos h
 have hjd:j<L.length/2 ^ h:=by
  rw [Nat.lt_div_iff_mul_lt hp0]
  have e:(j+1)*2 ^ h=j*2 ^ h+2 ^ h:=by rw [Nat.add_mul,Nat.one_mul]
  have e2:j*2 ^ h=2 ^ h*j:=Nat.mul_comm _ _
  omega
 have hll:h<ls.length:=by
  refine Classical.byContradiction fun hn=> ?_
  have h1:=hOf.2.1
  have h2:2 ^ ls.length≤2 ^ h:=Nat.pow_le_pow_right (by decide) (by omega)
  omega
 have hlen:(ls.getD h []).length=L.length/2 ^ h:=by
  have h1:=congrArg List.length (hOf.2.2 h hll)
  rwa [List.length_map,Mrk.level_length] at h1
 have hnb:nb ((ls.getD h []).getD j ByteArray.empty)=Mrk.root h ((L.drop (j*2 ^ h)).take (2 ^ h)):=by
  have h1:=congrArg (fun l=>l.getD j []) (hOf.2.2 h hll)
  rwa [getD_map _ _ (by rw [hlen];exact hjd),Mrk.level_getD _ _ _ hjd] at h1
 have hj9:j≤1000:=by
  have:=Nat.div_le_self L.length (2 ^ h)
  omega
 refine (part_ok B g ls h hh hll j (by rw [hlen];exact hjd) hj9 _ rfl w hT).mono ?_
 rintro e w' ⟨rfl,h2⟩
 refine ⟨_,rfl,hnb,?_,h2⟩
 rw [← nb_length,hnb]
 refine Mrk.root_len h _ ?_ fun z hz=>h32 z (List.mem_of_mem_drop (List.mem_of_mem_take hz))
 rw [List.length_take,List.length_drop]
 omega
theorem treeRoot_ok (B g:Nat) (ls:List (List ByteArray)) (L:List (List Nat)) (hOf:TreeOf ls L) (h32: ∀y ∈ L,y.length=32) (h:Nat) (hh:h≤8) (hl:L.length=2 ^ h) (P:Nat) (hP:2 ^ h=P) (w:World) (hT:TreeAt w B g ls):
    Calls Tryz.prog 84 #[.pointer (some ⟨g,0,none⟩),.int .i64 (P:Int)] w fun e w'=> ∃s:ByteArray,e= .returned (.tuple #[.string s,.int .i64 0])∧nb s=Mrk.root h L∧s.size=32∧Below w.heap.size w w':=by
 have hp:P≤256:=by rw [← hP];exact Nat.pow_le_pow_right (n:=2) (by decide) hh
 have hp0:0<P:=by rw [← hP];exact Nat.two_pow_pos h
 have HPR:=hid (fun w hT=>part_root B g ls L hOf h32 (by omega) h hh 0 0 P (Nat.zero_mul _) hP (by omega) w hT)
 have HTK:Hid ((L.drop 0).take P=L):=hid (by rw [List.drop_zero];exact List.take_of_length_le (by omega))
 have HLEN:=hid (fun w hT=>treeLen_any B g ls hOf.1 P (by
  have h1:=congrArg List.length (hOf.2.2 0 hOf.1)
  rw [List.length_map,Mrk.level_zero] at h1
  omega) w hT)
 have HT:=hid hT
 have hpn: ¬(P:Int)<0:=by omega
 clear hOf h32 hl hP hT
 go_enter Tryz.func84,Tryz.ntmps84
 go_wp2_with (first
  | (go_at_call 176
     (refine (HLEN.o _ HT.o).mono ?_)
     rintro e w2 ⟨rfl,rfl⟩)
  | (go_at_call 181
     (refine (HPR.o _ HT.o).mono ?_)
     rintro e w3 ⟨s3,rfl,hs3,hz3,h3⟩
     have HS3:=hid hs3
     have HZ3:=hid hz3
     have H3:=hid h3
     clear hs3 hz3 h3))
 go_ret2
 exact ⟨s3,rfl,by rw [HS3.o,HTK.o],HZ3.o,H3.o⟩
theorem mpath_ok (B g:Nat) (ls:List (List ByteArray)) (L:List (List Nat)) (hOf:TreeOf ls L) (h32: ∀y ∈ L,y.length=32) (hL:L.length≤500):
    ∀(h:Nat) (hh:h≤8) (j S P i:Nat) (hS:j*2 ^ h=S) (hP:2 ^ h=P) (hj:S+P≤L.length) (hi:i<P) (w:World) (hT:TreeAt w B g ls),
    Calls Tryz.prog 188 #[.func (.func 181) #[.pointer (some ⟨g,0,none⟩)] #[],.int .i64 (S:Int),.int .i64 (i:Int),.int .i64 (P:Int)] w fun e w'=> ∃(v:Value) (n:Nat) (vs:List ByteArray),e= .returned v∧n=h∧vs.map nb=Mrk.path h i ((L.drop S).take P)∧w'.ownsRow w.heap.size 9 1 v n (strV vs)∧(∀s ∈ vs,s.size=32)∧Below w.heap.size w w'
 | 0,hh,j,S,P,i,hS,hP,hj,hi,w,hT=>by
   obtain rfl:P=1:=hP.symm
   clear hS hT
   go_enter Tryz.func188,Tryz.ntmps188
   go_wp2_with fail
   go_ret
   exact ⟨_,rfl,[],rfl,⟨rfl,.inl ⟨rfl,rfl⟩⟩,(fun s hs=>by cases hs),Below.refl _ _⟩
 | h+1,hh,j,S,P,i,hS,hP,hj,hi,w,hT=>by
   obtain ⟨K,hK⟩:=ex_eq (2 ^ h)
   have hPK:P=K+K:=by rw [← hP,Nat.pow_succ,hK];omega
   have hK0:0<K:=by rw [← hK];exact Nat.two_pow_pos h
   have hS2:2*j*2 ^ h=S:=by rw [← hS,Nat.pow_succ,Nat.mul_comm 2 j,Nat.mul_assoc,Nat.mul_comm 2]
   have hS3:(2*j+1)*2 ^ h=S+K:=by rw [Nat.add_mul,hS2,Nat.one_mul,hK]
   have HSPL:Hid (∀w,Calls Tryz.prog 183 #[.int .i64 (P:Int)] w fun e w'=>e= .returned (.int .i64 (K:Int))∧w=w'):=hid (fun w=>by
    have h1:=split_ok h (by omega) w
    rw [hP,hK] at h1
    exact h1)
   have HT:=hid hT
   have hT1:((L.drop S).take P).take K=(L.drop S).take K:=by rw [List.take_take,Nat.min_eq_left (by omega)]
   have hT2:((L.drop S).take P).drop K=(L.drop (S+K)).take K:=by rw [List.drop_take,List.drop_drop,show P - K=K by omega]
   have hPn:((P:Int)==1)=false:=by rw [beq_eq_false_iff_ne];omega
   have hpk:(P:Int) - (K:Int)=(K:Int):=by omega
   obtain ⟨S1,hS1⟩:=ex_eq (S+K)
   rw [hS1] at hS3 hT2
   have hsk:(S:Int)+(K:Int)=(S1:Int):=by omega
   have hs19:S1≤1000:=by omega
   have hk9:K≤1000:=by omega
   by_cases hik:i<K
   ·have hiki:(i:Int)<(K:Int):=by omega
    have HIH:=hid (fun w hT=>mpath_ok B g ls L hOf h32 hL h (by omega) (2*j) S K i hS2 hK (by omega) hik w hT)
    have HPR:=hid (fun w hT=>part_root B g ls L hOf h32 hL h (by omega) (2*j+1) S1 K hS3 hK (by omega) w hT)
    have HPA:Hid (Mrk.path (h+1) i ((L.drop S).take P)=Mrk.path h i ((L.drop S).take K)++[Mrk.root h ((L.drop S1).take K)]):=hid (by
     rw [Mrk.path,hK,if_pos hik,hT1,hT2])
    have hh9:h≤8:=by omega
    clear hT1 hT2 hS hS2 hS3 hK hP hT hOf h32 hPK hS1
    go_enter Tryz.func188,Tryz.ntmps188
    go_wp2_with (first
     | (go_at_call 183
        (refine (HSPL.o _).mono ?_)
        rintro e w2 ⟨rfl,rfl⟩)
     | (go_at_call 188
        (refine (HIH.o _ HT.o).mono ?_)
        rintro e w3 ⟨v3,n3,vs3,rfl,hn3,hv3,ho3,hz3,h3⟩
        have hn4:=hn3.symm
        subst hn4
        have HV3:=hid hv3
        have HO3:=hid ho3
        have HZ3:=hid hz3
        have H3:=hid h3
        have HT3:=hid (HT.o.later h3)
        clear hv3 ho3 hz3 h3 hn3)
     | (go_at_call 181
        (refine (HPR.o _ HT3.o).mono ?_)
        rintro e w5 ⟨s5,rfl,hs5,hz5,h5⟩
        have HS5:=hid hs5
        have HZ5:=hid hz5
        have HO5:=hid (own_later HO3.o h5)
        have H5:=hid (H3.o.trans (h5.mono H3.o.size))
        clear hs5 hz5 h5)
     | (at_builtin
        refine app_str rfl _ _ rfl _ _ _ vs3 (by rfl) HO5.o H5.o.size (by omega) s5 1 (by rfl) ?_
        intro v6 w6 ho6 hb6
        have HO6:=hid ho6
        have H6:=hid (H5.o.trans hb6)
        clear ho6 hb6))
    go_ret
    refine ⟨_,_,vs3++[s5],rfl,rfl,?_,HO6.o,fun s hs=> ?_,H6.o⟩
    ·rw [HPA.o,List.map_append,HV3.o]
     show _++[nb s5]=_
     rw [HS5.o]
    ·rcases List.mem_append.1 hs with h1 | h1
     ·exact HZ3.o s h1
     ·rw [List.mem_singleton.1 h1];exact HZ5.o
   ·have hiki: ¬(i:Int)<(K:Int):=by omega
    obtain ⟨I2,hI2⟩:=ex_eq (i - K)
    have hIi:(i:Int) - (K:Int)=(I2:Int):=by omega
    have hI9:I2≤1000:=by omega
    have HIH:=hid (fun w hT=>mpath_ok B g ls L hOf h32 hL h (by omega) (2*j+1) S1 K I2 hS3 hK (by omega) (by omega) w hT)
    have HPR:=hid (fun w hT=>part_root B g ls L hOf h32 hL h (by omega) (2*j) S K hS2 hK (by omega) w hT)
    have HPA:Hid (Mrk.path (h+1) i ((L.drop S).take P)=Mrk.path h I2 ((L.drop S1).take K)++[Mrk.root h ((L.drop S).take K)]):=hid (by
     rw [Mrk.path,hK,if_neg hik,hT1,hT2,hI2])
    have hh9:h≤8:=by omega
    clear hT1 hT2 hS hS2 hS3 hK hP hT hOf h32 hPK hS1 hI2
    go_enter Tryz.func188,Tryz.ntmps188
    go_wp2_with (first
     | (go_at_call 183
        (refine (HSPL.o _).mono ?_)
        rintro e w2 ⟨rfl,rfl⟩)
     | (go_at_call 188
        (refine (HIH.o _ HT.o).mono ?_)
        rintro e w3 ⟨v3,n3,vs3,rfl,hn3,hv3,ho3,hz3,h3⟩
        have hn4:=hn3.symm
        subst hn4
        have HV3:=hid hv3
        have HO3:=hid ho3
        have HZ3:=hid hz3
        have H3:=hid h3
        have HT3:=hid (HT.o.later h3)
        clear hv3 ho3 hz3 h3 hn3)
     | (go_at_call 181
        (refine (HPR.o _ HT3.o).mono ?_)
        rintro e w5 ⟨s5,rfl,hs5,hz5,h5⟩
        have HS5:=hid hs5
        have HZ5:=hid hz5
        have HO5:=hid (own_later HO3.o h5)
        have H5:=hid (H3.o.trans (h5.mono H3.o.size))
        clear hs5 hz5 h5)
     | (at_builtin
        refine app_str rfl _ _ rfl _ _ _ vs3 (by rfl) HO5.o H5.o.size (by omega) s5 1 (by rfl) ?_
        intro v6 w6 ho6 hb6
        have HO6:=hid ho6
        have H6:=hid (H5.o.trans hb6)
        clear ho6 hb6))
    go_ret
    refine ⟨_,_,vs3++[s5],rfl,rfl,?_,HO6.o,fun s hs=> ?_,H6.o⟩
    ·rw [HPA.o,List.map_append,HV3.o]
     show _++[nb s5]=_
     rw [HS5.o]
    ·rcases List.mem_append.1 hs with h1 | h1
     ·exact HZ3.o s h1
     ·rw [List.mem_singleton.1 h1];exact HZ5.o
theorem treePath_ok (B g:Nat) (ls:List (List ByteArray)) (L:List (List Nat)) (hOf:TreeOf ls L) (h32: ∀y ∈ L,y.length=32) (h:Nat) (hh:h≤8) (hl:L.length=2 ^ h) (P:Nat) (hP:2 ^ h=P) (i:Nat) (hi:i<P) (w:World) (hT:TreeAt w B g ls):
    Calls Tryz.prog 185 #[.pointer (some ⟨g,0,none⟩),.int .i64 (i:Int),.int .i64 (P:Int)] w fun e w'=> ∃(v:Value) (n:Nat) (vs:List ByteArray),e= .returned (.tuple #[v,.int .i64 0])∧n=h∧vs.map nb=Mrk.path h i L∧w'.ownsRow w.heap.size 9 1 v n (strV vs)∧(∀s ∈ vs,s.size=32)∧Below w.heap.size w w':=by
 have hp:P≤256:=by rw [← hP];exact Nat.pow_le_pow_right (n:=2) (by decide) hh
 have hp0:0<P:=by rw [← hP];exact Nat.two_pow_pos h
 have HPA:=hid (fun w hT=>mpath_ok B g ls L hOf h32 (by omega) h hh 0 0 P i (Nat.zero_mul _) hP (by omega) hi w hT)
 have HTK:Hid ((L.drop 0).take P=L):=hid (by rw [List.drop_zero];exact List.take_of_length_le (by omega))
 have HLEN:=hid (fun w hT=>treeLen_any B g ls hOf.1 P (by
  have h1:=congrArg List.length (hOf.2.2 0 hOf.1)
  rw [List.length_map,Mrk.level_zero] at h1
  omega) w hT)
 have HT:=hid hT
 have hpn: ¬(P:Int)<1:=by omega
 have hin: ¬(i:Int)<0:=by omega
 have hip: ¬(P:Int)≤(i:Int):=by omega
 clear hOf h32 hl hP hT
 go_enter Tryz.func185,Tryz.ntmps185
 go_wp2_with (first
  | (go_at_call 176
     (refine (HLEN.o _ HT.o).mono ?_)
     rintro e w2 ⟨rfl,rfl⟩)
  | (go_at_call 188
     (refine (HPA.o _ HT.o).mono ?_)
     rintro e w3 ⟨v3,n3,vs3,rfl,hn3,hv3,ho3,hz3,h3⟩
     have HN3:=hid hn3
     have HV3:=hid hv3
     have HO3:=hid ho3
     have HZ3:=hid hz3
     have H3:=hid h3
     clear hn3 hv3 ho3 hz3 h3))
 go_ret2
 exact ⟨v3,n3,vs3,rfl,HN3.o,by rw [HV3.o,HTK.o],HO3.o,HZ3.o,H3.o⟩
end Go.Proofs.YtndlihclgdkpaaaGreatDoor
