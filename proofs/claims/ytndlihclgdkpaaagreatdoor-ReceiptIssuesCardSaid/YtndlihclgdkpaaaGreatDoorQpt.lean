/- The document's Merkle path at any number of leaves up to 256. -/
import Derived.Test.YtndlihclgdkpaaaGreatDoorGl
import Derived.Test.YtndlihclgdkpaaaGreatDoorRpt
set_option linter.unusedVariables false
set_option linter.unusedSimpArgs false
open Go.Lib (hid)
set_option maxHeartbeats 4000000
namespace Go.Proofs.YtndlihclgdkpaaaGreatDoor
open Go.RowKit
open Kit (Chg)
open Sha (v)
open Go.Proofs.YtndlihclgdkpaaaGreatDoor.One

set_option maxRecDepth 100000 in
theorem refPathM_ok: ∀(n:Nat),1≤n→n≤256→ ∀(a:Option Addr) (cap:Nat) (ss:List ByteArray),ss.length=n→n≤cap→(∀s ∈ ss,s.size=32)→ ∀(i:Nat),i<n→ ∀(w:World),StrsAt w a ss→Laid w→
    Calls Tryz.prog 197 #[.slice a n cap,.int .i64 (i:Int)] w fun e w'=> ∃(x:Value) (m:Nat) (vs:List ByteArray),e= .returned x∧(m=vs.length∧m≤n)∧vs.map nb=Mrk.pathM i (ss.map nb)∧w'.ownsRow w.heap.size 9 1 x m (strV vs)∧(∀s ∈ vs,s.size=32)∧Below w.heap.size w w':=by
 intro n
 induction n using Nat.strongRecOn with
 | ind n ih=>
   intro hn1 hn9 a cap ss hLe hcap h32 i hi w hS hLd
   by_cases h2:2≤n
   rotate_left
   ·obtain rfl:n=1:=by omega
    have HE:=hid (own_empty_strs (w:=w) (base:=w.heap.size) (Nat.le_refl _))
    have HB:Hid (Below w.heap.size w (w.alloc (.cells #[] 9))):=hid ((Below.refl _ _).alloc (Nat.le_refl _) _)
    have HM:Hid (Mrk.pathM i (ss.map nb)=[]):=hid (Mrk.pathM_one (by rw [List.length_map,hLe];exact Nat.le_refl _))
    clear hS h32 hLe ih hLd h2 hn1 hn9
    go_enter Tryz.func197,Tryz.ntmps197
    go_wp2_with fail
    go_ret
    exact ⟨_,_,[],rfl,⟨rfl,by simp⟩,HM.o.symm,HE.o,(fun s hs=>by cases hs),HB.o⟩
   have HSPL:Hid (∀w,Calls Tryz.prog 191 #[.int .i64 (n:Int)] w fun e w'=>e= .returned (.int .i64 ((Mrk.spl n:Nat):Int))∧w=w'):=hid (fun w=>refSplitM_any n h2 hn9 w)
   have hk1:=Mrk.spl_pos n
   have hk2:=Mrk.spl_lt h2
   have HPL:Hid (i<Mrk.spl n→Mrk.pathM i (ss.map nb)=Mrk.pathM i ((ss.take (Mrk.spl n)).map nb)++[Mrk.rootM ((ss.drop (Mrk.spl n)).map nb)]):=hid (fun h=>by
    have h1:=Mrk.pathM_left (i:=i) (l:=ss.map nb) (by rw [List.length_map];omega) (by rw [List.length_map,hLe];exact h)
    rwa [List.length_map,hLe,map_take_nb,map_drop_nb] at h1)
   have HPR:Hid (¬i<Mrk.spl n→Mrk.pathM i (ss.map nb)=Mrk.pathM (i - Mrk.spl n) ((ss.drop (Mrk.spl n)).map nb)++[Mrk.rootM ((ss.take (Mrk.spl n)).map nb)]):=hid (fun h=>by
    have h1:=Mrk.pathM_right (i:=i) (l:=ss.map nb) (by rw [List.length_map];omega) (by rw [List.length_map,hLe];exact h)
    rwa [List.length_map,hLe,map_take_nb,map_drop_nb] at h1)
   obtain ⟨K,hK⟩:=ex_eq (Mrk.spl n)
   rw [hK] at HSPL hk1 hk2 HPL HPR
   obtain ⟨J,hJ⟩:=ex_eq (n - K)
   have HKJ:Hid (K<n∧J<n∧n≤256):=hid ⟨hk2,by omega,hn9⟩
   have hl1:(ss.take K).length=K:=by rw [List.length_take];omega
   have hl2:(ss.drop K).length=J:=by rw [List.length_drop];omega
   have HLD:Hid (∀V,Below w.heap.size w V→Laid V):=hid (fun V h=>hLd.later h (Nat.le_refl _))
   have HA1:Hid (∀V,Below w.heap.size w V→StrsAt V (subA a 0 cap) (ss.take K)):=hid (fun V hV=>by
    have h1:=strsAt_sub (hS.later hV) (cap:=cap) (by omega) 0 K
    rwa [List.drop_zero] at h1)
   have HA2:Hid (∀V,Below w.heap.size w V→StrsAt V (subA a K cap) (ss.drop K)):=hid (fun V hV=>by
    have h1:=strsAt_sub (hS.later hV) (cap:=cap) (by omega) K n
    rwa [List.take_of_length_le (by omega)] at h1)
   have HR1:=hid (fun w hS hL=>refRootM_ok K hk1 (by omega) (subA a 0 cap) cap (ss.take K) hl1 (by omega) (fun s hs=>h32 s (List.mem_of_mem_take hs)) w hS hL)
   have HR2:=hid (fun w hS hL=>refRootM_ok J (by omega) (by omega) (subA a K cap) (cap - K) (ss.drop K) hl2 (by omega) (fun s hs=>h32 s (List.mem_of_mem_drop hs)) w hS hL)
   have HP1:=hid (fun (j:Nat) hj w hS hL=>ih K hk2 hk1 (by omega) (subA a 0 cap) cap (ss.take K) hl1 (by omega) (fun s hs=>h32 s (List.mem_of_mem_take hs)) j hj w hS hL)
   have HP2:=hid (fun (j:Nat) hj w hS hL=>ih J (by omega) (by omega) (by omega) (subA a K cap) (cap - K) (ss.drop K) hl2 (by omega) (fun s hs=>h32 s (List.mem_of_mem_drop hs)) j hj w hS hL)
   have hsh:=fun W=>sliceS_h a n cap K (by omega) W
   have hsl0:=fun W=>sliceS_l a n cap K (by omega) W
   rw [hJ] at hsl0
   have hn1':((n:Int)==1)=false:=by rw [beq_eq_false_iff_ne];omega
   by_cases hik:i<K
   ·have hii:(i:Int)<(K:Int):=by omega
    have HPT:=hid (HPL.o hik)
    clear hK hl1 hl2 h32 hS hLe ih hLd hJ hk1 hk2 h2 hn1
    go_enter Tryz.func197,Tryz.ntmps197
    go_upto_region 5 with (first
     | (go_at_call 191
        (refine (HSPL.o _).mono ?_)
        rintro e w2 ⟨rfl,rfl⟩))
    refine Kit.wp_region_gplan (fun V=>True) [(true,0),(true,1),(true,2),(true,3),(true,5),(true,6),(true,7),(false,4),(false,8),(false,9),(false,10),(true,11)] (by kernel_rfl) (by kernel_rfl) (by kernel_rfl) (by kernel_rfl) trivial ?_
    iterate 7 (refine Kit.ghd (h:= ?_))
    refine Kit.gplan_op (by rfl) (by rfl) fun K' hK=> ?_
    go_simp
    go_at_call 197
    refine (HP1.o i hik _ (HA1.o _ (Below.refl _ _).drew) (HLD.o _ (Below.refl _ _).drew)).mono ?_
    rintro e w3 ⟨x3,n3,vs3,rfl,hn3,hv3,ho3,hz3,h3⟩
    have HN3:=hid hn3
    have HV3:=hid hv3
    have HZ3:=hid hz3
    have HO3:Hid (w3.ownsRow w.heap.size 9 1 x3 n3 (strV vs3)):=hid ho3
    have H3:Hid (Below w.heap.size w w3):=hid ((Below.refl _ w).drew.trans h3)
    clear hv3 ho3 hz3 h3 hn3
    refine hK _ _ trivial ?_
    clear hK K'
    refine Kit.gplan_op (by rfl) (by rfl) fun K' hK=> ?_
    go_simp
    go_at_call 97
    refine (HR2.o _ (HA2.o _ H3.o) (HLD.o _ H3.o)).mono ?_
    rintro e w4 ⟨u4,rfl,hu4,hz4,h4⟩
    have HU4:=hid hu4
    have HZ4:=hid hz4
    have HO4:=hid (own_later HO3.o h4)
    have H4:=hid (H3.o.trans (h4.mono H3.o.size))
    clear hu4 hz4 h4
    refine hK _ _ trivial ?_
    clear hK K'
    refine Kit.gplan_op (by rfl) (by rfl) fun K' hK=> ?_
    go_simp
    refine hK _ _ trivial ?_
    clear hK K'
    refine Kit.gplan_op (by rfl) (by rfl) fun K' hK=> ?_
    refine wp_app_str1 _ _ (by rfl) w.heap.size _ n3 vs3 (by rfl) HO4.o H4.o.size (by have:=HN3.o;have:=HKJ.o;omega) u4 1 (by rfl) ?_
    intro v7 w7 ho7 hb7
    have HO7:=hid ho7
    have H7:Hid (Below w.heap.size w w7):=hid (H4.o.trans hb7)
    clear ho7 hb7
    refine hK _ _ trivial ?_
    clear hK K'
    iterate 1 (refine Kit.gplan_head (by rfl) (.inl ⟨by rfl,fun w' hS=>by (dsimp only at hS);go_simp;(try with_reducible rfl)⟩) ?_)
    refine Kit.gdn (h:=?_)
    go_wp2_with fail
    go_ret
    refine ⟨_,_,vs3++[u4],rfl,⟨by rw [List.length_append,← HN3.o.1];rfl,by have:=HN3.o;have:=HKJ.o;omega⟩,?_,HO7.o,fun s hs=> ?_,H7.o⟩
    ·rw [List.map_append,HV3.o,HPT.o]
     show _++[nb u4]=_
     rw [HU4.o]
    ·rcases List.mem_append.1 hs with h1 | h1
     ·exact HZ3.o s h1
     ·rw [List.mem_singleton.1 h1];exact HZ4.o
   ·have hii: ¬(i:Int)<(K:Int):=by omega
    have HPT:=hid (HPR.o hik)
    obtain ⟨j,hj⟩:=ex_eq (i - K)
    rw [hj] at HPT
    have hjK:j<J:=by omega
    have hsub:(i:Int) - (K:Int)=(j:Int):=by omega
    have hwj:IntKind.i64.wrap (j:Int)=(j:Int):=by rw [IntKind.wrap_i64];omega
    clear hK hl1 hl2 h32 hS hLe ih hLd hJ hk1 hk2 h2 hn1 hj
    go_enter Tryz.func197,Tryz.ntmps197
    go_upto_region 6 with (first
     | (go_at_call 191
        (refine (HSPL.o _).mono ?_)
        rintro e w2 ⟨rfl,rfl⟩))
    refine Kit.wp_region_gplan (fun V=>True) [(true,0),(true,1),(true,2),(true,3),(true,4),(true,5),(true,7),(true,8),(true,9),(false,6),(false,10),(false,11),(false,12),(true,13)] (by kernel_rfl) (by kernel_rfl) (by kernel_rfl) (by kernel_rfl) trivial ?_
    iterate 9 (refine Kit.ghd (h:= ?_))
    refine Kit.gplan_op (by rfl) (by rfl) fun K' hK=> ?_
    go_simp
    go_at_call 197
    refine (HP2.o j hjK _ (HA2.o _ (Below.refl _ _).drew) (HLD.o _ (Below.refl _ _).drew)).mono ?_
    rintro e w3 ⟨x3,n3,vs3,rfl,hn3,hv3,ho3,hz3,h3⟩
    have HN3:=hid hn3
    have HV3:=hid hv3
    have HZ3:=hid hz3
    have HO3:Hid (w3.ownsRow w.heap.size 9 1 x3 n3 (strV vs3)):=hid ho3
    have H3:Hid (Below w.heap.size w w3):=hid ((Below.refl _ w).drew.trans h3)
    clear hv3 ho3 hz3 h3 hn3
    refine hK _ _ trivial ?_
    clear hK K'
    refine Kit.gplan_op (by rfl) (by rfl) fun K' hK=> ?_
    go_simp
    go_at_call 97
    refine (HR1.o _ (HA1.o _ H3.o) (HLD.o _ H3.o)).mono ?_
    rintro e w4 ⟨u4,rfl,hu4,hz4,h4⟩
    have HU4:=hid hu4
    have HZ4:=hid hz4
    have HO4:=hid (own_later HO3.o h4)
    have H4:=hid (H3.o.trans (h4.mono H3.o.size))
    clear hu4 hz4 h4
    refine hK _ _ trivial ?_
    clear hK K'
    refine Kit.gplan_op (by rfl) (by rfl) fun K' hK=> ?_
    go_simp
    refine hK _ _ trivial ?_
    clear hK K'
    refine Kit.gplan_op (by rfl) (by rfl) fun K' hK=> ?_
    refine wp_app_str1 _ _ (by rfl) w.heap.size _ n3 vs3 (by rfl) HO4.o H4.o.size (by have:=HN3.o;have:=HKJ.o;omega) u4 1 (by rfl) ?_
    intro v7 w7 ho7 hb7
    have HO7:=hid ho7
    have H7:Hid (Below w.heap.size w w7):=hid (H4.o.trans hb7)
    clear ho7 hb7
    refine hK _ _ trivial ?_
    clear hK K'
    iterate 1 (refine Kit.gplan_head (by rfl) (.inl ⟨by rfl,fun w' hS=>by (dsimp only at hS);go_simp;(try with_reducible rfl)⟩) ?_)
    refine Kit.gdn (h:=?_)
    go_wp2_with fail
    go_ret
    refine ⟨_,_,vs3++[u4],rfl,⟨by rw [List.length_append,← HN3.o.1];rfl,by have:=HN3.o;have:=HKJ.o;omega⟩,?_,HO7.o,fun s hs=> ?_,H7.o⟩
    ·rw [List.map_append,HV3.o,HPT.o]
     show _++[nb u4]=_
     rw [HU4.o]
    ·rcases List.mem_append.1 hs with h1 | h1
     ·exact HZ3.o s h1
     ·rw [List.mem_singleton.1 h1];exact HZ4.o
theorem refPathG_ok (n:Nat) (hn1:1≤n) (hn9:n≤256) (a:Option Addr) (cap:Nat) (ss:List ByteArray) (hLe:ss.length=n) (hcap:n≤cap) (h32: ∀s ∈ ss,s.size=32) (i:Nat) (hi:i<n) (w:World) (hS:StrsAt w a ss) (hL:Laid w):
    Calls Tryz.prog 100 #[.slice a n cap,.int .i64 (i:Int)] w fun e w'=> ∃(x:Value) (m:Nat) (vs:List ByteArray),e= .returned (.tuple #[x,.int .i64 0])∧(m=vs.length∧m≤n)∧vs.map nb=Mrk.pathM i (ss.map nb)∧w'.ownsRow w.heap.size 9 1 x m (strV vs)∧(∀s ∈ vs,s.size=32)∧Below w.heap.size w w':=by
 have HPI:=hid (refPathM_ok n hn1 hn9 a cap ss hLe hcap h32 i hi w hS hL)
 have h1: ¬(i:Int)<0:=by omega
 have h2: ¬(n:Int)≤(i:Int):=by omega
 clear hLe hcap h32 hi hS hL hn1 hn9
 go_enter Tryz.func100,Tryz.ntmps100
 go_wp2_with (first
  | (go_at_call 197
     (refine HPI.o.mono ?_)
     rintro e w2 ⟨x2,n2,vs,rfl,hn2,hv2,ho2,hz2,h2⟩
     have HN2:=hid hn2
     have HV2:=hid hv2
     have HO2:=hid ho2
     have HZ2:=hid hz2
     have H2:=hid h2
     clear hn2 hv2 ho2 hz2 h2))
 go_ret2
 exact ⟨_,_,vs,rfl,HN2.o,HV2.o,HO2.o,HZ2.o,H2.o⟩
end Go.Proofs.YtndlihclgdkpaaaGreatDoor
