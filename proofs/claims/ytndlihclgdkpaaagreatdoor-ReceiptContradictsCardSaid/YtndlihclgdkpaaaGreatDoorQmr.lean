/- merkle at any number of leaves up to 256: split, Node, Root, path, Path, areSums, climb, Verify. -/
import Derived.Test.YtndlihclgdkpaaaGreatDoorGc
import Derived.Test.YtndlihclgdkpaaaGreatDoorGe
import Derived.Test.YtndlihclgdkpaaaGreatDoorGh
import Derived.Test.YtndlihclgdkpaaaGreatDoorQmk
import Derived.Test.YtndlihclgdkpaaaGreatDoorQva
set_option linter.unusedVariables false
set_option linter.unusedSimpArgs false
open Go.Lib (hid)
set_option maxHeartbeats 2000000
set_option maxRecDepth 100000
namespace Go.Proofs.YtndlihclgdkpaaaGreatDoor
open Go.RowKit
open Kit (Chg)
open Sha (v)
open Go.Proofs.YtndlihclgdkpaaaGreatDoor.One

theorem bitLen_log: ∀k:Fin 256,k.val=0∨Lib.bitLen k.val=Nat.log2 k.val+1:=by decide+kernel
theorem splM_0 (n:Nat) (h1:1<n) (h2:n≤2) (w:World):Calls Tryz.prog 183 #[.int .i64 (n:Int)] w fun e w'=>e= .returned (.int .i64 1)∧w=w':=by
 have hbl:=fun w=>bits_Len ((n:Int) - 1) w (by omega) (by omega)
 have hlen:Lib.bitLen ((n:Int) - 1).toNat=1:=by
  rw [show ((n:Int) - 1).toNat=n - 1 by omega]
  rcases bitLen_log ⟨n - 1,by omega⟩ with h | h
  ·simp only at h;omega
  ·simp only at h
   rw [h,(Nat.log2_eq_iff (n:=n - 1) (k:=0) (by omega)).2 (by omega)]
 rw [hlen] at hbl
 have hwu:IntKind.u64.wrap ((n:Int) - 1)=(n:Int) - 1:=by rw [IntKind.wrap_u64];omega
 clear hlen
 go_enter Tryz.func183,Tryz.ntmps183
 go_wp2_with (first
  | (go_at_call 235
     (refine (hbl _).mono ?_)
     rintro e w2 ⟨rfl,rfl⟩))
 go_ret
 exact ⟨rfl,rfl⟩
theorem splM_1 (n:Nat) (h1:2<n) (h2:n≤4) (w:World):Calls Tryz.prog 183 #[.int .i64 (n:Int)] w fun e w'=>e= .returned (.int .i64 2)∧w=w':=by
 have hbl:=fun w=>bits_Len ((n:Int) - 1) w (by omega) (by omega)
 have hlen:Lib.bitLen ((n:Int) - 1).toNat=2:=by
  rw [show ((n:Int) - 1).toNat=n - 1 by omega]
  rcases bitLen_log ⟨n - 1,by omega⟩ with h | h
  ·simp only at h;omega
  ·simp only at h
   rw [h,(Nat.log2_eq_iff (n:=n - 1) (k:=1) (by omega)).2 (by omega)]
 rw [hlen] at hbl
 have hwu:IntKind.u64.wrap ((n:Int) - 1)=(n:Int) - 1:=by rw [IntKind.wrap_u64];omega
 clear hlen
 go_enter Tryz.func183,Tryz.ntmps183
 go_wp2_with (first
  | (go_at_call 235
     (refine (hbl _).mono ?_)
     rintro e w2 ⟨rfl,rfl⟩))
 go_ret
 exact ⟨rfl,rfl⟩
theorem splM_2 (n:Nat) (h1:4<n) (h2:n≤8) (w:World):Calls Tryz.prog 183 #[.int .i64 (n:Int)] w fun e w'=>e= .returned (.int .i64 4)∧w=w':=by
 have hbl:=fun w=>bits_Len ((n:Int) - 1) w (by omega) (by omega)
 have hlen:Lib.bitLen ((n:Int) - 1).toNat=3:=by
  rw [show ((n:Int) - 1).toNat=n - 1 by omega]
  rcases bitLen_log ⟨n - 1,by omega⟩ with h | h
  ·simp only at h;omega
  ·simp only at h
   rw [h,(Nat.log2_eq_iff (n:=n - 1) (k:=2) (by omega)).2 (by omega)]
 rw [hlen] at hbl
 have hwu:IntKind.u64.wrap ((n:Int) - 1)=(n:Int) - 1:=by rw [IntKind.wrap_u64];omega
 clear hlen
 go_enter Tryz.func183,Tryz.ntmps183
 go_wp2_with (first
  | (go_at_call 235
     (refine (hbl _).mono ?_)
     rintro e w2 ⟨rfl,rfl⟩))
 go_ret
 exact ⟨rfl,rfl⟩
theorem splM_3 (n:Nat) (h1:8<n) (h2:n≤16) (w:World):Calls Tryz.prog 183 #[.int .i64 (n:Int)] w fun e w'=>e= .returned (.int .i64 8)∧w=w':=by
 have hbl:=fun w=>bits_Len ((n:Int) - 1) w (by omega) (by omega)
 have hlen:Lib.bitLen ((n:Int) - 1).toNat=4:=by
  rw [show ((n:Int) - 1).toNat=n - 1 by omega]
  rcases bitLen_log ⟨n - 1,by omega⟩ with h | h
  ·simp only at h;omega
  ·simp only at h
   rw [h,(Nat.log2_eq_iff (n:=n - 1) (k:=3) (by omega)).2 (by omega)]
 rw [hlen] at hbl
 have hwu:IntKind.u64.wrap ((n:Int) - 1)=(n:Int) - 1:=by rw [IntKind.wrap_u64];omega
 clear hlen
 go_enter Tryz.func183,Tryz.ntmps183
 go_wp2_with (first
  | (go_at_call 235
     (refine (hbl _).mono ?_)
     rintro e w2 ⟨rfl,rfl⟩))
 go_ret
 exact ⟨rfl,rfl⟩
theorem splM_4 (n:Nat) (h1:16<n) (h2:n≤32) (w:World):Calls Tryz.prog 183 #[.int .i64 (n:Int)] w fun e w'=>e= .returned (.int .i64 16)∧w=w':=by
 have hbl:=fun w=>bits_Len ((n:Int) - 1) w (by omega) (by omega)
 have hlen:Lib.bitLen ((n:Int) - 1).toNat=5:=by
  rw [show ((n:Int) - 1).toNat=n - 1 by omega]
  rcases bitLen_log ⟨n - 1,by omega⟩ with h | h
  ·simp only at h;omega
  ·simp only at h
   rw [h,(Nat.log2_eq_iff (n:=n - 1) (k:=4) (by omega)).2 (by omega)]
 rw [hlen] at hbl
 have hwu:IntKind.u64.wrap ((n:Int) - 1)=(n:Int) - 1:=by rw [IntKind.wrap_u64];omega
 clear hlen
 go_enter Tryz.func183,Tryz.ntmps183
 go_wp2_with (first
  | (go_at_call 235
     (refine (hbl _).mono ?_)
     rintro e w2 ⟨rfl,rfl⟩))
 go_ret
 exact ⟨rfl,rfl⟩
theorem splM_5 (n:Nat) (h1:32<n) (h2:n≤64) (w:World):Calls Tryz.prog 183 #[.int .i64 (n:Int)] w fun e w'=>e= .returned (.int .i64 32)∧w=w':=by
 have hbl:=fun w=>bits_Len ((n:Int) - 1) w (by omega) (by omega)
 have hlen:Lib.bitLen ((n:Int) - 1).toNat=6:=by
  rw [show ((n:Int) - 1).toNat=n - 1 by omega]
  rcases bitLen_log ⟨n - 1,by omega⟩ with h | h
  ·simp only at h;omega
  ·simp only at h
   rw [h,(Nat.log2_eq_iff (n:=n - 1) (k:=5) (by omega)).2 (by omega)]
 rw [hlen] at hbl
 have hwu:IntKind.u64.wrap ((n:Int) - 1)=(n:Int) - 1:=by rw [IntKind.wrap_u64];omega
 clear hlen
 go_enter Tryz.func183,Tryz.ntmps183
 go_wp2_with (first
  | (go_at_call 235
     (refine (hbl _).mono ?_)
     rintro e w2 ⟨rfl,rfl⟩))
 go_ret
 exact ⟨rfl,rfl⟩
theorem splM_6 (n:Nat) (h1:64<n) (h2:n≤128) (w:World):Calls Tryz.prog 183 #[.int .i64 (n:Int)] w fun e w'=>e= .returned (.int .i64 64)∧w=w':=by
 have hbl:=fun w=>bits_Len ((n:Int) - 1) w (by omega) (by omega)
 have hlen:Lib.bitLen ((n:Int) - 1).toNat=7:=by
  rw [show ((n:Int) - 1).toNat=n - 1 by omega]
  rcases bitLen_log ⟨n - 1,by omega⟩ with h | h
  ·simp only at h;omega
  ·simp only at h
   rw [h,(Nat.log2_eq_iff (n:=n - 1) (k:=6) (by omega)).2 (by omega)]
 rw [hlen] at hbl
 have hwu:IntKind.u64.wrap ((n:Int) - 1)=(n:Int) - 1:=by rw [IntKind.wrap_u64];omega
 clear hlen
 go_enter Tryz.func183,Tryz.ntmps183
 go_wp2_with (first
  | (go_at_call 235
     (refine (hbl _).mono ?_)
     rintro e w2 ⟨rfl,rfl⟩))
 go_ret
 exact ⟨rfl,rfl⟩
theorem splM_7 (n:Nat) (h1:128<n) (h2:n≤256) (w:World):Calls Tryz.prog 183 #[.int .i64 (n:Int)] w fun e w'=>e= .returned (.int .i64 128)∧w=w':=by
 have hbl:=fun w=>bits_Len ((n:Int) - 1) w (by omega) (by omega)
 have hlen:Lib.bitLen ((n:Int) - 1).toNat=8:=by
  rw [show ((n:Int) - 1).toNat=n - 1 by omega]
  rcases bitLen_log ⟨n - 1,by omega⟩ with h | h
  ·simp only at h;omega
  ·simp only at h
   rw [h,(Nat.log2_eq_iff (n:=n - 1) (k:=7) (by omega)).2 (by omega)]
 rw [hlen] at hbl
 have hwu:IntKind.u64.wrap ((n:Int) - 1)=(n:Int) - 1:=by rw [IntKind.wrap_u64];omega
 clear hlen
 go_enter Tryz.func183,Tryz.ntmps183
 go_wp2_with (first
  | (go_at_call 235
     (refine (hbl _).mono ?_)
     rintro e w2 ⟨rfl,rfl⟩))
 go_ret
 exact ⟨rfl,rfl⟩
theorem split_any (n:Nat) (h2:2≤n) (h:n≤256) (w:World):Calls Tryz.prog 183 #[.int .i64 (n:Int)] w fun e w'=>e= .returned (.int .i64 ((Mrk.spl n:Nat):Int))∧w=w':=by
 have hc:n≤2∨(2<n∧n≤4)∨(4<n∧n≤8)∨(8<n∧n≤16)∨(16<n∧n≤32)∨(32<n∧n≤64)∨(64<n∧n≤128)∨(128<n∧n≤256):=by omega
 rcases hc with h1 | h1 | h1 | h1 | h1 | h1 | h1 | h1
 ·rw [Mrk.spl_unique (n:=n) (k:=0) (by omega) (by omega)];exact splM_0 n (by omega) (by omega) w
 ·rw [Mrk.spl_unique (n:=n) (k:=1) (by omega) (by omega)];exact splM_1 n (by omega) (by omega) w
 ·rw [Mrk.spl_unique (n:=n) (k:=2) (by omega) (by omega)];exact splM_2 n (by omega) (by omega) w
 ·rw [Mrk.spl_unique (n:=n) (k:=3) (by omega) (by omega)];exact splM_3 n (by omega) (by omega) w
 ·rw [Mrk.spl_unique (n:=n) (k:=4) (by omega) (by omega)];exact splM_4 n (by omega) (by omega) w
 ·rw [Mrk.spl_unique (n:=n) (k:=5) (by omega) (by omega)];exact splM_5 n (by omega) (by omega) w
 ·rw [Mrk.spl_unique (n:=n) (k:=6) (by omega) (by omega)];exact splM_6 n (by omega) (by omega) w
 ·rw [Mrk.spl_unique (n:=n) (k:=7) (by omega) (by omega)];exact splM_7 n (by omega) (by omega) w
theorem node_g (l r:ByteArray) (hl:l.size≤1000) (hr:r.size≤1000) (w:World) (hL:Laid w):
    Calls Tryz.prog 177 #[.string l,.string r] w fun e w'=> ∃u:ByteArray,e= .returned (.string u)∧nb u=Mrk.node (nb l) (nb r)∧u.size=32∧Below w.heap.size w w':=by
 have HL:=hid hL
 have HT:Hid (Sha.sum (catB [{ data:= #[1] },l,r])=Mrk.node (nb l) (nb r)):=hid (by rw [catB_three,one_lit];rfl)
 have HCL:Hid ((catB [{ data:= #[1] },l,r]).length≤100000000000):=hid (by rw [catB_three,List.length_append,List.length_append,nb_length,nb_length,nb_length];show 1+_≤_;omega)
 obtain ⟨CT,hCT⟩:=ex_eq (catB [{ data:= #[1] },l,r])
 have HCT:=hid hCT
 rw [hCT] at HT HCL
 clear hl hr hL hCT
 go_enter Tryz.func177,Tryz.ntmps177
 have HB1:Hid (Below w.heap.size w (w.alloc (.cells #[.string { data:= #[1] },.string l,.string r] 9))):=hid ((Below.refl _ _).alloc (Nat.le_refl _) _)
 have HS1:Hid (StrsAt (w.alloc (.cells #[.string { data:= #[1] },.string l,.string r] 9)) (some ⟨w.heap.size,0,none⟩) [{ data:= #[1] },l,r]):=hid (strs_of_row (t:=9) (heap_alloc_new w _))
 go_wp2_with (first
  | (go_at_call 244
     (refine (join_l (some ⟨w.heap.size,0,none⟩) 3 [{ data:= #[1] },l,r] 3 rfl (by rw [HCT.o];exact HCL.o) (by show 3≤1000000000;omega) _ HS1.o (HL.o.later HB1.o (Nat.le_refl _)) CT HCT.o).mono ?_)
     rintro e w2 ⟨u,rfl,hu,h2⟩
     have HU:=hid hu
     have H2:=hid h2
     clear hu h2))
 go_ret
 exact ⟨u,rfl,by rw [HU.o,HT.o],by rw [← nb_length,HU.o,HT.o];exact Mrk.node_len _ _,HB1.o.trans (H2.o.mono HB1.o.size)⟩
theorem sliceS_lh (a:Option Addr) (n cap l h:Nat) (hlh:l≤h) (hh:h≤cap) (W:World):(Instr.slice 43 (.slice a n cap) (some (.int .i64 (l:Int))) (some (.int .i64 (h:Int))) none).run Tryz.prog W= .ok (.slice (subA a l cap) (h - l) (cap - l)) W:=by
 rw [run_slice_lh W 43 _ _ _ (by rw [Tryz.elemS];exact Tryz.underlying43) .i64 .i64 _ _ (by omega) (by omega) (by omega),Tryz.elemS,Tryz.sizeOf9']
 simp [Result.andThen,sliced,subA]
theorem map_take_nb (ss:List ByteArray) (k:Nat):(ss.map nb).take k=(ss.take k).map nb:=List.map_take.symm
theorem map_drop_nb (ss:List ByteArray) (k:Nat):(ss.map nb).drop k=(ss.drop k).map nb:=List.map_drop.symm
theorem rootM_ok: ∀(n:Nat),1≤n→n≤256→ ∀(a:Option Addr) (cap:Nat) (ss:List ByteArray),ss.length=n→n≤cap→(∀s ∈ ss,s.size=32)→ ∀(w:World),StrsAt w a ss→Laid w→
    Calls Tryz.prog 90 #[.slice a n cap] w fun e w'=> ∃u:ByteArray,e= .returned (.string u)∧nb u=Mrk.rootM (ss.map nb)∧u.size=32∧Below w.heap.size w w':=by
 intro n
 induction n using Nat.strongRecOn with
 | ind n ih=>
   intro hn1 hn9 a cap ss hLe hcap h32 w hS hLd
   by_cases h2:2≤n
   rotate_left
   ·obtain rfl:n=1:=by omega
    obtain ⟨b,o,rfl,hcs⟩: ∃b o,a=some ⟨b,o,none⟩∧ ∀i,i<ss.length→w.cell? ⟨b,o+i,none⟩=some (.string (ss.getD i ByteArray.empty)):=by
     rcases hS with h | h
     ·rw [h] at hLe;simp at hLe
     ·exact h
    have hc:=hcs 0 (by omega)
    rw [Nat.add_zero] at hc
    have HZ:=hid (h32 _ (getD_mem ss 0 ByteArray.empty (by omega)))
    have HM:Hid (Mrk.rootM (ss.map nb)=nb (ss.getD 0 ByteArray.empty)):=hid (by rw [Mrk.rootM_one (by rw [List.length_map,hLe])];exact getD_map ss 0 (by omega))
    obtain ⟨s,hs⟩:=ex_eq (ss.getD 0 ByteArray.empty)
    rw [hs] at hc HZ HM
    clear hS h32 hcs hs hLe ih hLd h2 hn1 hn9
    go_enter Tryz.func90,Tryz.ntmps90
    go_wp2_with fail
    go_ret
    exact ⟨s,rfl,HM.o.symm,HZ.o,Below.refl _ _⟩
   have HSPL:Hid (∀w,Calls Tryz.prog 183 #[.int .i64 (n:Int)] w fun e w'=>e= .returned (.int .i64 ((Mrk.spl n:Nat):Int))∧w=w'):=hid (fun w=>split_any n h2 hn9 w)
   have hk1:=Mrk.spl_pos n
   have hk2:=Mrk.spl_lt h2
   have HRT:Hid (Mrk.rootM (ss.map nb)=Mrk.node (Mrk.rootM ((ss.take (Mrk.spl n)).map nb)) (Mrk.rootM ((ss.drop (Mrk.spl n)).map nb))):=hid (by
    rw [Mrk.rootM_two (by rw [List.length_map];omega),List.length_map,hLe,map_take_nb,map_drop_nb])
   obtain ⟨K,hK⟩:=ex_eq (Mrk.spl n)
   rw [hK] at HSPL hk1 hk2 HRT
   obtain ⟨J,hJ⟩:=ex_eq (n - K)
   have hl1:(ss.take K).length=K:=by rw [List.length_take];omega
   have hl2:(ss.drop K).length=J:=by rw [List.length_drop];omega
   have HLD:Hid (∀V,Below w.heap.size w V→Laid V):=hid (fun V h=>hLd.later h (Nat.le_refl _))
   have HA1:Hid (∀V,Below w.heap.size w V→StrsAt V (subA a 0 cap) (ss.take K)):=hid (fun V hV=>by
    have h1:=strsAt_sub (hS.later hV) (cap:=cap) (by omega) 0 K
    rwa [List.drop_zero] at h1)
   have HA2:Hid (∀V,Below w.heap.size w V→StrsAt V (subA a K cap) (ss.drop K)):=hid (fun V hV=>by
    have h1:=strsAt_sub (hS.later hV) (cap:=cap) (by omega) K n
    rwa [List.take_of_length_le (by omega)] at h1)
   have HR1:=hid (fun w hS hL=>ih K hk2 hk1 (by omega) (subA a 0 cap) cap (ss.take K) hl1 (by omega) (fun s hs=>h32 s (List.mem_of_mem_take hs)) w hS hL)
   have HR2:=hid (fun w hS hL=>ih J (by omega) (by omega) (by omega) (subA a K cap) (cap - K) (ss.drop K) hl2 (by omega) (fun s hs=>h32 s (List.mem_of_mem_drop hs)) w hS hL)
   have hsh:=fun W=>sliceS_h a n cap K (by omega) W
   have hsl0:=fun W=>sliceS_l a n cap K (by omega) W
   rw [hJ] at hsl0
   have hn0:((n:Int)==0)=false:=by rw [beq_eq_false_iff_ne];omega
   have hn1':((n:Int)==1)=false:=by rw [beq_eq_false_iff_ne];omega
   clear hK hl1 hl2 h32 hS hLe ih hLd hJ hk1 hk2 h2 hn1
   go_enter Tryz.func90,Tryz.ntmps90
   go_upto_region 7 with (first
    | (go_at_call 183
       (refine (HSPL.o _).mono ?_)
       rintro e w2 ⟨rfl,rfl⟩))
   refine Kit.wp_region_gplan (fun V=>True) [(true,0),(true,1),(true,2),(true,4),(true,5),(true,6),(false,3),(false,7),(false,8),(true,9)] (by kernel_rfl) (by kernel_rfl) (by kernel_rfl) (by kernel_rfl) trivial ?_
   iterate 6 (refine Kit.ghd (h:= ?_))
   refine Kit.gplan_op (by rfl) (by rfl) fun K' hK=> ?_
   go_simp
   go_at_call 90
   refine (HR1.o _ (HA1.o _ (Below.refl _ _).drew) (HLD.o _ (Below.refl _ _).drew)).mono ?_
   rintro e w3 ⟨u3,rfl,hu3,hz3,h3⟩
   have HU3:=hid hu3
   have HZ3:=hid hz3
   have H3:Hid (Below w.heap.size w w3):=hid ((Below.refl _ w).drew.trans h3)
   clear hu3 hz3 h3
   refine hK _ _ trivial ?_
   clear hK K'
   refine Kit.gplan_op (by rfl) (by rfl) fun K' hK=> ?_
   go_simp
   go_at_call 90
   refine (HR2.o _ (HA2.o _ H3.o) (HLD.o _ H3.o)).mono ?_
   rintro e w4 ⟨u4,rfl,hu4,hz4,h4⟩
   have HU4:=hid hu4
   have HZ4:=hid hz4
   have H4:=hid (H3.o.trans (h4.mono H3.o.size))
   clear hu4 hz4 h4
   refine hK _ _ trivial ?_
   clear hK K'
   refine Kit.gplan_op (by rfl) (by rfl) fun K' hK=> ?_
   go_simp
   go_at_call 177
   refine (node_l u3 u4 HZ3.o HZ4.o (Mrk.rootM (ss.map nb)) (by rw [HU3.o,HU4.o,HRT.o]) _ (HLD.o _ H4.o)).mono ?_
   rintro e w5 ⟨u5,rfl,hu5,hz5,h5⟩
   have HU5:=hid hu5
   have HZ5:=hid hz5
   have H5:=hid (H4.o.trans (h5.mono H4.o.size))
   clear hu5 hz5 h5
   refine hK _ _ trivial ?_
   clear hK K'
   iterate 1 (refine Kit.ghd (h:= ?_))
   refine Kit.gdn (h:=?_)
   go_wp2_with fail
   go_ret
   exact ⟨u5,rfl,HU5.o,HZ5.o,H5.o⟩
theorem partC_ok (q:Nat) (a:Option Addr) (n cap:Nat) (ss:List ByteArray) (hLe:ss.length=n) (hcap:n≤cap) (hn9:n≤256) (h32: ∀s ∈ ss,s.size=32) (S K:Nat) (hK:1≤K) (hSK:S+K≤n) (w:World) (hc:w.cell? ⟨q,0,none⟩=some (.slice a n cap)) (hS:StrsAt w a ss) (hLd:Laid w):
    Calls Tryz.prog 187 #[.int .i64 (S:Int),.int .i64 (K:Int),.pointer (some ⟨q,0,none⟩)] w fun e w'=> ∃u:ByteArray,e= .returned (.string u)∧nb u=Mrk.rootM (((ss.map nb).drop S).take K)∧u.size=32∧Below w.heap.size w w':=by
 have hs:=fun W=>sliceS_lh a n cap S (S+K) (by omega) (by omega) W
 rw [show S+K - S=K by omega] at hs
 have hsk:(S:Int)+(K:Int)=((S+K:Nat):Int):=by omega
 have HR:=hid (rootM_ok K hK (by omega) (subA a S cap) (cap - S) ((ss.take (S+K)).drop S) (by rw [List.length_drop,List.length_take];omega) (by omega) (fun s hs=>h32 s (List.mem_of_mem_take (List.mem_of_mem_drop hs))) w (strsAt_sub hS (by omega) S (S+K)) hLd)
 have HE:Hid (((ss.take (S+K)).drop S).map nb=((ss.map nb).drop S).take K):=hid (by rw [List.drop_take,show S+K - S=K by omega,map_drop_nb,map_take_nb])
 rw [HE.o] at HR
 have hs1:S+K≤256:=by omega
 obtain ⟨J,hJ⟩:=ex_eq (S+K)
 rw [hJ] at hs hsk hs1
 clear HE hLe h32 hS hLd hSK hJ hK
 go_enter Tryz.func187,Tryz.ntmps187
 go_wp2_with (first
  | (go_at_call 90
     (with_reducible refine HR.o.mono ?_)
     rintro e w2 ⟨u,rfl,hu,hz,h2⟩
     have HU:=hid hu
     have HZ:=hid hz
     have H2:=hid h2
     clear hu hz h2))
 go_ret
 exact ⟨u,rfl,HU.o,HZ.o,H2.o⟩
theorem pathM_ok (q:Nat) (a:Option Addr) (n cap:Nat) (ss:List ByteArray) (hLe:ss.length=n) (hcap:n≤cap) (hn9:n≤256) (h32: ∀s ∈ ss,s.size=32):
    ∀(P:Nat),1≤P→P≤256→ ∀(S i:Nat),S+P≤n→i<P→ ∀(w:World),(w.cell? ⟨q,0,none⟩=some (.slice a n cap)∧StrsAt w a ss∧Laid w)→
    Calls Tryz.prog 188 #[.func (.func 187) #[] #[.pointer (some ⟨q,0,none⟩)],.int .i64 (S:Int),.int .i64 (i:Int),.int .i64 (P:Int)] w fun e w'=> ∃(v:Value) (m:Nat) (vs:List ByteArray),e= .returned v∧m=vs.length∧m≤8∧vs.map nb=Mrk.pathM i (((ss.map nb).drop S).take P)∧w'.ownsRow w.heap.size 9 1 v m (strV vs)∧(∀s ∈ vs,s.size=32)∧Below w.heap.size w w':=by
 obtain ⟨CtxQ,hCtx⟩: ∃C:World→Prop,C=fun w=>w.cell? ⟨q,0,none⟩=some (.slice a n cap)∧StrsAt w a ss∧Laid w:=⟨_,rfl⟩
 have HPC:Hid (∀S K,1≤K→S+K≤n→ ∀V,CtxQ V→Calls Tryz.prog 187 #[.int .i64 (S:Int),.int .i64 (K:Int),.pointer (some ⟨q,0,none⟩)] V fun e w'=> ∃u:ByteArray,e= .returned (.string u)∧nb u=Mrk.rootM (((ss.map nb).drop S).take K)∧u.size=32∧Below V.heap.size V w'):=hid (fun S K h1 h2 V hC=>by
  rw [hCtx] at hC
  exact partC_ok q a n cap ss hLe hcap hn9 h32 S K h1 h2 V hC.1 hC.2.1 hC.2.2)
 have HLT:Hid (∀(V V':World),CtxQ V→Below V.heap.size V V'→CtxQ V'):=hid (fun V V' hC hb=>by
  rw [hCtx] at hC ⊢
  exact ⟨(hb.cell (World.block_lt_of_cell? _ _ hC.1)).trans hC.1,hC.2.1.later hb,hC.2.2.later hb (Nat.le_refl _)⟩)
 have hgo: ∀w,(w.cell? ⟨q,0,none⟩=some (.slice a n cap)∧StrsAt w a ss∧Laid w)→CtxQ w:=fun w h=>by rw [hCtx];exact h
 have hLL:(ss.map nb).length=n:=by rw [List.length_map,hLe]
 obtain ⟨L,hL⟩:=ex_eq (ss.map nb)
 rw [hL] at HPC hLL ⊢
 have HLT2:=HLT
 clear hCtx hLe hcap h32 hL
 suffices hmain: ∀(P:Nat),1≤P→P≤256→ ∀(S i:Nat),S+P≤n→i<P→ ∀(w:World),CtxQ w→
  Calls Tryz.prog 188 #[.func (.func 187) #[] #[.pointer (some ⟨q,0,none⟩)],.int .i64 (S:Int),.int .i64 (i:Int),.int .i64 (P:Int)] w fun e w'=> ∃(v:Value) (m:Nat) (vs:List ByteArray),e= .returned v∧m=vs.length∧m≤8∧vs.map nb=Mrk.pathM i ((L.drop S).take P)∧w'.ownsRow w.heap.size 9 1 v m (strV vs)∧(∀s ∈ vs,s.size=32)∧Below w.heap.size w w' from
  fun P h1 h2 S i h3 h4 w h5=>hmain P h1 h2 S i h3 h4 w (hgo w h5)
 clear hgo
 intro P
 induction P using Nat.strongRecOn with
 | ind P ih=>
   intro hP1 hP9 S i hSP hi w hC
   by_cases h2:2≤P
   rotate_left
   ·obtain rfl:P=1:=by omega
    have HPE:Hid (Mrk.pathM i ((L.drop S).take 1)=[]):=hid (Mrk.pathM_one (by rw [List.length_take];omega))
    clear ih hC h2 HPC HLT HLT2 hLL hn9 hSP
    go_enter Tryz.func188,Tryz.ntmps188
    go_wp2_with fail
    go_ret
    exact ⟨_,0,[],rfl,rfl,Nat.zero_le _,HPE.o.symm,⟨rfl,.inl ⟨rfl,rfl⟩⟩,(fun s hs=>by cases hs),Below.refl _ _⟩
   have HSPL:Hid (∀w,Calls Tryz.prog 183 #[.int .i64 (P:Int)] w fun e w'=>e= .returned (.int .i64 ((Mrk.spl P:Nat):Int))∧w=w'):=hid (fun w=>split_any P h2 hP9 w)
   have hk1:=Mrk.spl_pos P
   have hk2:=Mrk.spl_lt h2
   obtain ⟨K,hK⟩:=ex_eq (Mrk.spl P)
   have HK0:=hid hK
   rw [hK] at HSPL hk1 hk2
   clear hK
   have HPL:Hid (((L.drop S).take P).length=P):=hid (by rw [List.length_take,List.length_drop];omega)
   have HP9:Hid (P≤256):=hid hP9
   have HCQ:=hid hC
   have HLT:Hid (∀V',Below w.heap.size w V'→CtxQ V'):=hid (fun V' h=>HLT2.o _ V' hC h)
   have hPn:((P:Int)==1)=false:=by rw [beq_eq_false_iff_ne];omega
   obtain ⟨J,hJ⟩:=ex_eq (P - K)
   obtain ⟨S1,hS1⟩:=ex_eq (S+K)
   have hT1:((L.drop S).take P).take K=(L.drop S).take K:=by rw [List.take_take,Nat.min_eq_left (by omega)]
   have hT2:((L.drop S).take P).drop K=(L.drop S1).take J:=by rw [List.drop_take,List.drop_drop,hS1,hJ]
   have hpk:(P:Int) - (K:Int)=(J:Int):=by omega
   have hsk:(S:Int)+(K:Int)=(S1:Int):=by omega
   have hs19:S1≤1000:=by omega
   have hk9:K≤1000:=by omega
   have hj9:J≤1000:=by omega
   have hS9:S≤1000:=by omega
   clear hC HLT2
   by_cases hik:i<K
   ·have hiki:(i:Int)<(K:Int):=by omega
    have HIH:=hid (fun w hC=>ih K hk2 hk1 (by omega) S i (by omega) hik w hC)
    have HPR:Hid (∀V,CtxQ V→Calls Tryz.prog 187 #[.int .i64 (S1:Int),.int .i64 (J:Int),.pointer (some ⟨q,0,none⟩)] V fun e w'=> ∃u:ByteArray,e= .returned (.string u)∧nb u=Mrk.rootM ((L.drop S1).take J)∧u.size=32∧Below V.heap.size V w'):=hid (fun V hC=>HPC.o S1 J (by omega) (by omega) V hC)
    have HPA:Hid (Mrk.pathM i ((L.drop S).take P)=Mrk.pathM i ((L.drop S).take K)++[Mrk.rootM ((L.drop S1).take J)]):=hid (by
     rw [Mrk.pathM_left (by rw [HPL.o];omega) (by rw [HPL.o,HK0.o];exact hik),HPL.o,HK0.o,hT1,hT2])
    clear hT1 hT2 hS1 HPL HK0 hk1 hk2 ih HPC
    go_enter Tryz.func188,Tryz.ntmps188
    go_wp2_with (first
     | (go_at_call 183
        (refine (HSPL.o _).mono ?_)
        rintro e w2 ⟨rfl,rfl⟩)
     | (go_at_call 188
        (refine (HIH.o _ HCQ.o).mono ?_)
        rintro e w3 ⟨v3,n3,vs3,rfl,hn3,hn9,hv3,ho3,hz3,h3⟩
        have HN3:=hid hn3
        have HV3:=hid hv3
        have HO3:=hid ho3
        have HZ3:=hid hz3
        have H3:=hid h3
        have HC3:=hid (HLT.o _ h3)
        clear hv3 ho3 hz3 h3 hn3)
     | (go_at_call 187
        (refine (HPR.o _ HC3.o).mono ?_)
        rintro e w5 ⟨s5,rfl,hs5,hz5,h5⟩
        have HS5:=hid hs5
        have HZ5:=hid hz5
        have HO5:=hid (own_later HO3.o h5)
        have H5:=hid (H3.o.trans (h5.mono H3.o.size))
        clear hs5 hz5 h5)
     | (at_builtin
        refine app_str rfl _ _ rfl _ _ _ vs3 (by rfl) HO5.o H5.o.size (by omega) s5 1 (by rfl) ?_
        intro v6 w6 ho6 hb6
        have HO6:=hid ho6
        have H6:=hid (H5.o.trans hb6)
        clear ho6 hb6))
    go_ret
    have hfin:(vs3++[s5]).map nb=Mrk.pathM i ((L.drop S).take P):=by
     rw [HPA.o,List.map_append,HV3.o]
     show _++[nb s5]=_
     rw [HS5.o]
    have hle:(vs3++[s5]).length=n3+1:=by rw [List.length_append,HN3.o];rfl
    refine ⟨_,n3+1,vs3++[s5],rfl,hle.symm,?_,hfin,HO6.o,fun s hs=> ?_,H6.o⟩
    ·have h1:=congrArg List.length hfin
     rw [List.length_map,hle] at h1
     have h2:=Mrk.pathM_len 8 ((L.drop S).take P) i (by rw [List.length_take];have:=HP9.o;omega)
     omega
    ·rcases List.mem_append.1 hs with h1 | h1
     ·exact HZ3.o s h1
     ·rw [List.mem_singleton.1 h1];exact HZ5.o
   ·have hiki: ¬(i:Int)<(K:Int):=by omega
    obtain ⟨I2,hI2⟩:=ex_eq (i - K)
    have hIi:(i:Int) - (K:Int)=(I2:Int):=by omega
    have hI9:I2≤1000:=by omega
    have HIH:=hid (fun w hC=>ih J (by omega) (by omega) (by omega) S1 I2 (by omega) (by omega) w hC)
    have HPR:Hid (∀V,CtxQ V→Calls Tryz.prog 187 #[.int .i64 (S:Int),.int .i64 (K:Int),.pointer (some ⟨q,0,none⟩)] V fun e w'=> ∃u:ByteArray,e= .returned (.string u)∧nb u=Mrk.rootM ((L.drop S).take K)∧u.size=32∧Below V.heap.size V w'):=hid (fun V hC=>HPC.o S K (by omega) (by omega) V hC)
    have HPA:Hid (Mrk.pathM i ((L.drop S).take P)=Mrk.pathM I2 ((L.drop S1).take J)++[Mrk.rootM ((L.drop S).take K)]):=hid (by
     rw [Mrk.pathM_right (by rw [HPL.o];omega) (by rw [HPL.o,HK0.o];exact hik),HPL.o,HK0.o,hT1,hT2,hI2])
    clear hT1 hT2 hS1 HPL HK0 hk1 hk2 ih HPC hI2
    go_enter Tryz.func188,Tryz.ntmps188
    go_wp2_with (first
     | (go_at_call 183
        (refine (HSPL.o _).mono ?_)
        rintro e w2 ⟨rfl,rfl⟩)
     | (go_at_call 188
        (refine (HIH.o _ HCQ.o).mono ?_)
        rintro e w3 ⟨v3,n3,vs3,rfl,hn3,hn9,hv3,ho3,hz3,h3⟩
        have HN3:=hid hn3
        have HV3:=hid hv3
        have HO3:=hid ho3
        have HZ3:=hid hz3
        have H3:=hid h3
        have HC3:=hid (HLT.o _ h3)
        clear hv3 ho3 hz3 h3 hn3)
     | (go_at_call 187
        (refine (HPR.o _ HC3.o).mono ?_)
        rintro e w5 ⟨s5,rfl,hs5,hz5,h5⟩
        have HS5:=hid hs5
        have HZ5:=hid hz5
        have HO5:=hid (own_later HO3.o h5)
        have H5:=hid (H3.o.trans (h5.mono H3.o.size))
        clear hs5 hz5 h5)
     | (at_builtin
        refine app_str rfl _ _ rfl _ _ _ vs3 (by rfl) HO5.o H5.o.size (by omega) s5 1 (by rfl) ?_
        intro v6 w6 ho6 hb6
        have HO6:=hid ho6
        have H6:=hid (H5.o.trans hb6)
        clear ho6 hb6))
    go_ret
    have hfin:(vs3++[s5]).map nb=Mrk.pathM i ((L.drop S).take P):=by
     rw [HPA.o,List.map_append,HV3.o]
     show _++[nb s5]=_
     rw [HS5.o]
    have hle:(vs3++[s5]).length=n3+1:=by rw [List.length_append,HN3.o];rfl
    refine ⟨_,n3+1,vs3++[s5],rfl,hle.symm,?_,hfin,HO6.o,fun s hs=> ?_,H6.o⟩
    ·have h1:=congrArg List.length hfin
     rw [List.length_map,hle] at h1
     have h2:=Mrk.pathM_len 8 ((L.drop S).take P) i (by rw [List.length_take];have:=HP9.o;omega)
     omega
    ·rcases List.mem_append.1 hs with h1 | h1
     ·exact HZ3.o s h1
     ·rw [List.mem_singleton.1 h1];exact HZ5.o
theorem mPath_ok (a:Option Addr) (n cap:Nat) (ss:List ByteArray) (hLe:ss.length=n) (hcap:n≤cap) (hn9:n≤256) (h32: ∀s ∈ ss,s.size=32) (i:Nat) (hi:i<n) (w:World) (hS:StrsAt w a ss) (hLd:Laid w):
    Calls Tryz.prog 93 #[.slice a n cap,.int .i64 (i:Int)] w fun e w'=> ∃(v:Value) (m:Nat) (vs:List ByteArray),e= .returned (.tuple #[v,.int .i64 0])∧m=vs.length∧m≤8∧vs.map nb=Mrk.pathM i (ss.map nb)∧w'.ownsRow (w.heap.size+1) 9 1 v m (strV vs)∧(∀s ∈ vs,s.size=32)∧Below w.heap.size w w':=by
 have HS:=hid hS
 have HLD:=hid hLd
 have HPT:=hid (fun q w h=>pathM_ok q a n cap ss hLe hcap hn9 h32 n (by omega) hn9 0 i (by omega) hi w h)
 have HTE:Hid (((ss.map nb).drop 0).take n=ss.map nb):=hid (by rw [List.drop_zero,List.take_of_length_le (by rw [List.length_map];omega)])
 have hii:(i:Int)<(n:Int):=by omega
 clear hS hLd hLe h32 hi
 go_enter Tryz.func93,Tryz.ntmps93
 go_upto_region 1 with fail
 refine wp_over (fun W=>Hid (W.heap[w.heap.size]? =some (.cells #[.slice a n cap] 43 (0,0)))∧Hid (Below w.heap.size w W)∧Hid (W.heap.size=w.heap.size+1)) ⟨heap_alloc_new _ _,(Below.refl _ _).alloc (Nat.le_refl _) _,by show _=_;simp⟩ ?_
 rintro W ⟨HG,HB,HWS⟩
 have HBW0:Hid (∀V,Below (w.heap.size+1) W V→Below w.heap.size w V):=hid (fun V h=>HB.o.trans (h.mono (Nat.le_succ _)))
 obtain ⟨N,hN⟩:=ex_eq w.heap.size
 have HN:=hid hN
 have HBW:Hid (∀V,Below (N+1) W V→Below w.heap.size w V):=hid (fun V h=>HBW0.o V (by rw [hN];exact h))
 rw [hN] at HG HB HWS ⊢
 clear hN HBW0
 have q0:W.cell? ⟨N,0,none⟩=some (.slice a n cap):=cr HG.o
 have HC0:Hid (W.cell? ⟨N,0,none⟩=some (.slice a n cap)∧StrsAt W a ss∧Laid W):=hid ⟨q0,HS.o.later (by rw [HN.o];exact HB.o),HLD.o.later (by rw [HN.o];exact HB.o) (Nat.le_refl _)⟩
 go_wp2_with (first
  | (go_at_call 188
     (refine (HPT.o N _ HC0.o).mono ?_)
     rintro e w3 ⟨v3,n3,vs3,rfl,hn3,hn9,hv3,ho3,hz3,h3⟩
     have HN3:=hid hn3
     have HN9:=hid hn9
     have HV3:=hid hv3
     have HO3:=hid ho3
     have HZ3:=hid hz3
     have H3:=hid h3
     clear hv3 ho3 hz3 h3 hn3))
 go_ret2
 exact ⟨v3,n3,vs3,rfl,HN3.o,HN9.o,by rw [HV3.o,HTE.o],by have h:=HO3.o;rw [HWS.o] at h;rw [HN.o];exact h,HZ3.o,HBW.o _ (H3.o.mono (by rw [HWS.o];exact Nat.le_refl _))⟩
end Go.Proofs.YtndlihclgdkpaaaGreatDoor
