/- The document's Merkle path. -/
import Derived.Test.YtndlihclgdkpaaaGreatDoorGe
import Derived.Test.YtndlihclgdkpaaaGreatDoorGi
set_option linter.unusedVariables false
set_option linter.unusedSimpArgs false
open Go.Lib (hid)
namespace Go.Proofs.YtndlihclgdkpaaaGreatDoor
open Go.RowKit
open Kit (Chg)
open Sha (v)
open Go.Proofs.YtndlihclgdkpaaaGreatDoor.One

theorem wp_app_str1 {o:Oper} {a:Act} {K:Act→World→Prop} {Q:Exit→Act→World→Prop} {w0:World} (s x:Operand) (ho:o.op= .call { callee:= .builtin .append,args:= #[s,x],argTypes:= #[43, 43] })
    (base:Nat) (v:Value) (L:Nat) (cur:List ByteArray) (hs:a.eval s=v) (hown:w0.ownsRow base 9 1 v L (strV cur)) (hb:base≤w0.heap.size) (hL:L≤1000000000000)
    (b:ByteArray) (c:Nat) (hx:a.eval x= .slice (some ⟨w0.heap.size,0,none⟩) 1 c)
    (h: ∀v' w',w'.ownsRow base 9 1 v' (L+1) (strV (cur++[b]))→Below base w0 w'→K (a.put o.dst v') w'):o.wp Tryz.prog a (w0.alloc (.cells #[.string b] 9)) K Q:=
 wp_app_strAt s x ho base v L cur hs hown hb hL b c hx (fun v' w' h1 h2 _=>h v' w' h1 (((Chg.alloc1 w0 _).trans (Chg.of_grown h2 (fun q _ e=>(hown.lt q e).1)):Chg (fun q _=>base≤q) w0 w').below hb (fun q i hq h=>by omega)))
set_option maxRecDepth 100000 in
set_option maxHeartbeats 2000000 in
theorem refPathI_ok: ∀(h:Nat) (hh:h≤8) (a:Option Addr) (cap L:Nat) (ss:List ByteArray) (hLe:ss.length=L) (hP:2 ^ h=L) (hcap:L≤cap) (h32: ∀s ∈ ss,s.size=32) (i:Nat) (hi:i<L) (w:World) (hS:StrsAt w a ss),
    Calls Tryz.prog 197 #[.slice a L cap,.int .i64 (i:Int)] w fun e w'=> ∃(x:Value) (n:Nat) (vs:List ByteArray),e= .returned x∧n=h∧vs.map nb=Mrk.path h i (ss.map nb)∧w'.ownsRow w.heap.size 9 1 x n (strV vs)∧(∀s ∈ vs,s.size=32)∧Below w.heap.size w w'
 | 0,hh,a,cap,L,ss,hLe,hP,hcap,h32,i,hi,w,hS=>by
   obtain rfl:L=1:=hP.symm
   have HE:=hid (own_empty_strs (w:=w) (base:=w.heap.size) (Nat.le_refl _))
   have HB:Hid (Below w.heap.size w (w.alloc (.cells #[] 9))):=hid ((Below.refl _ _).alloc (Nat.le_refl _) _)
   clear hP hS h32 hLe
   go_enter Tryz.func197,Tryz.ntmps197
   go_wp2_with fail
   go_ret
   exact ⟨_,_,[],rfl,rfl,rfl,HE.o,(fun s hs=>by cases hs),HB.o⟩
 | h+1,hh,a,cap,L,ss,hLe,hP,hcap,h32,i,hi,w,hS=>by
   have hL9:L≤256:=by rw [← hP];exact Nat.pow_le_pow_right (n:=2) (by decide) hh
   obtain ⟨K,hK⟩:=ex_eq (2 ^ h)
   have hLK:L=K+K:=by rw [← hP,Nat.pow_succ,hK];omega
   have hK0:0<K:=by rw [← hK];exact Nat.two_pow_pos h
   have HSPL:Hid (∀w,Calls Tryz.prog 191 #[.int .i64 (L:Int)] w fun e w'=>e= .returned (.int .i64 (K:Int))∧w=w'):=hid (fun w=>by
    have h1:=refSplit_ok h (by omega) w
    rw [hP,hK] at h1
    exact h1)
   have hl1:(ss.take K).length=K:=by rw [List.length_take];omega
   have hl2:(ss.drop K).length=K:=by rw [List.length_drop];omega
   have HA1:Hid (∀V,Below w.heap.size w V→StrsAt V (subA a 0 cap) (ss.take K)):=hid (fun V hV=>by
    have h1:=strsAt_sub (hS.later hV) (cap:=cap) (by omega) 0 K
    rwa [List.drop_zero] at h1)
   have HA2:Hid (∀V,Below w.heap.size w V→StrsAt V (subA a K cap) (ss.drop K)):=hid (fun V hV=>by
    have h1:=strsAt_sub (hS.later hV) (cap:=cap) (by omega) K L
    rwa [List.take_of_length_le (by omega)] at h1)
   have HR1:=hid (fun w hS=>refRoot_ok h (by omega) (subA a 0 cap) cap K (ss.take K) hl1 hK (by omega) (fun s hs=>h32 s (List.mem_of_mem_take hs)) w hS)
   have HR2:=hid (fun w hS=>refRoot_ok h (by omega) (subA a K cap) (cap - K) K (ss.drop K) hl2 hK (by omega) (fun s hs=>h32 s (List.mem_of_mem_drop hs)) w hS)
   have HP1:=hid (fun (j:Nat) hj w hS=>refPathI_ok h (by omega) (subA a 0 cap) cap K (ss.take K) hl1 hK (by omega) (fun s hs=>h32 s (List.mem_of_mem_take hs)) j hj w hS)
   have HP2:=hid (fun (j:Nat) hj w hS=>refPathI_ok h (by omega) (subA a K cap) (cap - K) K (ss.drop K) hl2 hK (by omega) (fun s hs=>h32 s (List.mem_of_mem_drop hs)) j hj w hS)
   have HKE:=hid hK
   have hsh:=fun W=>sliceS_h a L cap K (by omega) W
   have hsl0:=fun W=>sliceS_l a L cap K (by omega) W
   have e:L - K=K:=by omega
   rw [e] at hsl0
   have hn1:((L:Int)==1)=false:=by rw [beq_eq_false_iff_ne];omega
   clear hP hK hl1 hl2 h32 hS e hLe
   by_cases hik:i<K
   ·have hii:(i:Int)<(K:Int):=by omega
    have HPT:Hid (Mrk.path (h+1) i (ss.map nb)=Mrk.path h i ((ss.take K).map nb)++[Mrk.root h ((ss.drop K).map nb)]):=hid (by
     rw [Mrk.path,HKE.o,if_pos hik,List.map_take,List.map_drop])
    clear hLK
    go_enter Tryz.func197,Tryz.ntmps197
    go_upto_region 5 with (first
     | (go_at_call 191
        (refine (HSPL.o _).mono ?_)
        rintro e w2 ⟨rfl,rfl⟩))
    go_upto_region 5 with fail
    refine Kit.wp_region_gplan (fun V=>True) [(true,0),(true,1),(true,2),(true,3),(true,5),(true,6),(true,7),(false,4),(false,8),(false,9),(false,10),(true,11)] (by kernel_rfl) (by kernel_rfl) (by kernel_rfl) (by kernel_rfl) trivial ?_
    iterate 7 (refine Kit.ghd (h:=?_))
    refine Kit.gplan_op (by rfl) (by rfl) fun K' hK=> ?_
    go_simp
    go_at_call 197
    refine (HP1.o i hik _ (HA1.o _ (Below.refl _ _).drew)).mono ?_
    rintro e w3 ⟨x3,n3,vs3,rfl,hn3,hv3,ho3,hz3,h3⟩
    rw [hn3] at ho3
    have HV3:=hid hv3
    have HZ3:=hid hz3
    have HO3:Hid (w3.ownsRow w.heap.size 9 1 x3 h (strV vs3)):=hid ho3
    have H3:Hid (Below w.heap.size w w3):=hid ((Below.refl _ w).drew.trans h3)
    clear hv3 ho3 hz3 h3 hn3
    refine hK _ _ trivial ?_
    clear hK K'
    refine Kit.gplan_op (by rfl) (by rfl) fun K' hK=> ?_
    go_simp
    go_at_call 97
    refine (HR2.o _ (HA2.o _ H3.o)).mono ?_
    rintro e w4 ⟨u4,rfl,hu4,hz4,h4⟩
    have HU4:=hid hu4
    have HZ4:=hid hz4
    have HO4:=hid (own_later HO3.o h4)
    have H4:=hid (H3.o.trans (h4.mono H3.o.size))
    clear hu4 hz4 h4
    refine hK _ _ trivial ?_
    clear hK K'
    refine Kit.gplan_op (by rfl) (by rfl) fun K' hK=> ?_
    go_simp
    refine hK _ _ trivial ?_
    clear hK K'
    refine Kit.gplan_op (by rfl) (by rfl) fun K' hK=> ?_
    refine wp_app_str1 _ _ (by rfl) w.heap.size _ h vs3 (by rfl) HO4.o H4.o.size (by omega) u4 1 (by rfl) ?_
    intro v7 w7 ho7 hb7
    have HO7:=hid ho7
    have H7:Hid (Below w.heap.size w w7):=hid (H4.o.trans hb7)
    clear ho7 hb7
    refine hK _ _ trivial ?_
    clear hK K'
    refine Kit.gplan_head (by rfl) (.inl ⟨by rfl,fun w' hS=>by (dsimp only at hS);go_simp;(try with_reducible rfl)⟩) ?_
    refine Kit.gdn (h:=?_)
    go_wp2_with fail
    go_ret
    refine ⟨_,_,vs3++[u4],rfl,rfl,?_,HO7.o,fun s hs=> ?_,H7.o⟩
    ·rw [List.map_append,HV3.o,HPT.o]
     show _++[nb u4]=_
     rw [HU4.o]
    ·rcases List.mem_append.1 hs with h1 | h1
     ·exact HZ3.o s h1
     ·rw [List.mem_singleton.1 h1];exact HZ4.o
   ·have hii: ¬(i:Int)<(K:Int):=by omega
    obtain ⟨j,rfl⟩: ∃j,i=K+j:=⟨i - K,by omega⟩
    have hjK:j<K:=by omega
    have hsub:((K+j:Nat):Int) - (K:Int)=(j:Int):=by omega
    have hwj:IntKind.i64.wrap (j:Int)=(j:Int):=by rw [IntKind.wrap_i64];omega
    have HPT:Hid (Mrk.path (h+1) (K+j) (ss.map nb)=Mrk.path h j ((ss.drop K).map nb)++[Mrk.root h ((ss.take K).map nb)]):=hid (by
     rw [Mrk.path,HKE.o,if_neg (by omega),List.map_take,List.map_drop,Nat.add_sub_cancel_left])
    obtain ⟨I,hI⟩:=ex_eq (K+j)
    rw [hI] at hsub hii HPT hi ⊢
    clear hLK hI
    go_enter Tryz.func197,Tryz.ntmps197
    go_upto_region 6 with (first
     | (go_at_call 191
        (refine (HSPL.o _).mono ?_)
        rintro e w2 ⟨rfl,rfl⟩))
    go_upto_region 6 with fail
    refine Kit.wp_region_gplan (fun V=>True) [(true,0),(true,1),(true,2),(true,3),(true,4),(true,5),(true,7),(true,8),(true,9),(false,6),(false,10),(false,11),(false,12),(true,13)] (by kernel_rfl) (by kernel_rfl) (by kernel_rfl) (by kernel_rfl) trivial ?_
    iterate 9 (refine Kit.ghd (h:=?_))
    refine Kit.gplan_op (by rfl) (by rfl) fun K' hK=> ?_
    go_simp
    go_at_call 197
    refine (HP2.o j hjK _ (HA2.o _ (Below.refl _ _).drew)).mono ?_
    rintro e w3 ⟨x3,n3,vs3,rfl,hn3,hv3,ho3,hz3,h3⟩
    rw [hn3] at ho3
    have HV3:=hid hv3
    have HZ3:=hid hz3
    have HO3:Hid (w3.ownsRow w.heap.size 9 1 x3 h (strV vs3)):=hid ho3
    have H3:Hid (Below w.heap.size w w3):=hid ((Below.refl _ w).drew.trans h3)
    clear hv3 ho3 hz3 h3 hn3
    refine hK _ _ trivial ?_
    clear hK K'
    refine Kit.gplan_op (by rfl) (by rfl) fun K' hK=> ?_
    go_simp
    go_at_call 97
    refine (HR1.o _ (HA1.o _ H3.o)).mono ?_
    rintro e w4 ⟨u4,rfl,hu4,hz4,h4⟩
    have HU4:=hid hu4
    have HZ4:=hid hz4
    have HO4:=hid (own_later HO3.o h4)
    have H4:=hid (H3.o.trans (h4.mono H3.o.size))
    clear hu4 hz4 h4
    refine hK _ _ trivial ?_
    clear hK K'
    refine Kit.gplan_op (by rfl) (by rfl) fun K' hK=> ?_
    go_simp
    refine hK _ _ trivial ?_
    clear hK K'
    refine Kit.gplan_op (by rfl) (by rfl) fun K' hK=> ?_
    refine wp_app_str1 _ _ (by rfl) w.heap.size _ h vs3 (by rfl) HO4.o H4.o.size (by omega) u4 1 (by rfl) ?_
    intro v7 w7 ho7 hb7
    have HO7:=hid ho7
    have H7:Hid (Below w.heap.size w w7):=hid (H4.o.trans hb7)
    clear ho7 hb7
    refine hK _ _ trivial ?_
    clear hK K'
    refine Kit.gplan_head (by rfl) (.inl ⟨by rfl,fun w' hS=>by (dsimp only at hS);go_simp;(try with_reducible rfl)⟩) ?_
    refine Kit.gdn (h:=?_)
    go_wp2_with fail
    go_ret
    refine ⟨_,_,vs3++[u4],rfl,rfl,?_,HO7.o,fun s hs=> ?_,H7.o⟩
    ·rw [List.map_append,HV3.o,HPT.o]
     show _++[nb u4]=_
     rw [HU4.o]
    ·rcases List.mem_append.1 hs with h1 | h1
     ·exact HZ3.o s h1
     ·rw [List.mem_singleton.1 h1];exact HZ4.o
end Go.Proofs.YtndlihclgdkpaaaGreatDoor
