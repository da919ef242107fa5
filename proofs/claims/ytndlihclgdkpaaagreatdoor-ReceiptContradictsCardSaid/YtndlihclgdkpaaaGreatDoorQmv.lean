/- merkle: areSums, climb, Verify at any number of leaves up to 256. -/
import Derived.Test.YtndlihclgdkpaaaGreatDoorQmr
set_option linter.unusedVariables false
set_option linter.unusedSimpArgs false
open Go.Lib (hid)
set_option maxHeartbeats 2000000
set_option maxRecDepth 100000
namespace Go.Proofs.YtndlihclgdkpaaaGreatDoor
open Go.RowKit
open Kit (Chg)
open Sha (v)
open Go.Proofs.YtndlihclgdkpaaaGreatDoor.One

theorem areSumsM_any (a:Option Addr) (cap L:Nat) (ss:List ByteArray) (hLe:ss.length=L) (hl9:L<9223372036854775808) (w:World) (hS:StrsAt w a ss):
    Calls Tryz.prog 121 #[.slice a L cap] w fun e w'=>e= .returned (.bool (all32 ss))∧Below w.heap.size w w':=by
 have HLE:=hid hLe
 have HS:=hid hS
 clear hLe hS
 go_enter Tryz.func121,Tryz.ntmps121
 go_upto_region 2 with fail
 go_loopw [7] (fun y wr=> ∃k:Nat,k≤L∧y= .int .i64 (k:Int)∧Hid (∀i,i<k→(ss.getD i ByteArray.empty).size=32)∧Hid (Below w.heap.size w wr)) (fun y _=>L - (intOf y).toNat)
 case atStart=>exact ⟨0,by omega,rfl,hid (fun i h=>by omega),hid (Below.refl _ _)⟩
 case round=>
  obtain ⟨k,hk,rfl,H32,HBE⟩:=hrel
  by_cases hlt:k<L
  ·have hki:(k:Int)<(L:Int):=by omega
   obtain ⟨b1,o1,rfl,hcs⟩: ∃b o,a=some ⟨b,o,none⟩∧ ∀i,i<ss.length→wr.cell? ⟨b,o+i,none⟩=some (.string (ss.getD i ByteArray.empty)):=by
    rcases HS.o.later HBE.o with h | h
    ·have:=HLE.o;rw [h] at this;simp at this;omega
    ·exact h
   have hc:=hcs k (by rw [HLE.o];exact hlt)
   have HSM:Hid (ss.getD k ByteArray.empty ∈ ss):=hid (getD_mem ss k _ (by rw [HLE.o];exact hlt))
   obtain ⟨s,hse⟩:=ex_eq (ss.getD k ByteArray.empty)
   rw [hse] at hc HSM
   have HSE:=hid hse
   clear hcs hse
   have HI3:=hid (fun w=>isSumM_any s w)
   by_cases h32:s.size=32
   ·have HH:=hid h32
    rw [decide_eq_true h32] at HI3
    clear h32
    go_wp2_with (first
     | (go_at_call 120
        (with_reducible refine (HI3.o _).mono ?_)
        rintro e w2 ⟨rfl,rfl⟩
        clear hc))
    go_roundw
    case rel=>
     refine ⟨k+1,hlt,by go_num,hid (fun i hi=> ?_),HBE⟩
     by_cases e:i=k
     ·rw [e,HSE.o];exact HH.o
     ·exact H32.o i (by omega)
    case measure=>simp [intOf];omega
   ·have HF:Hid (all32 ss=false):=hid (all32_bad HSM.o h32)
    rw [decide_eq_false h32] at HI3
    clear h32
    go_wp2_with (first
     | (go_at_call 120
        (with_reducible refine (HI3.o _).mono ?_)
        rintro e w2 ⟨rfl,rfl⟩
        clear hc))
    go_ret
    exact ⟨by rw [HF.o];first | rfl | simp,HBE.o⟩
  ·have hki: ¬(k:Int)<(L:Int):=by omega
   have HF:Hid (all32 ss=true):=hid (all32_good H32.o (by have:=HLE.o;omega))
   go_wp2_with fail
   go_ret
   exact ⟨by rw [HF.o];first | rfl | simp,HBE.o⟩
def ClimbOut (l:ByteArray) (i n:Nat) (ss:List ByteArray) (u:ByteArray) (ok:Bool):Prop:=ok=(Mrk.climbM (nb l) i n (ss.map nb)).isSome∧(∀y,Mrk.climbM (nb l) i n (ss.map nb)=some y→nb u=y)∧u.size≤1000
theorem ClimbOut.one {l:ByteArray} {i:Nat} {ss:List ByteArray} (hl:l.size=32):ClimbOut l i 1 ss l (decide (ss.length=0)):=by
 unfold ClimbOut
 rw [Mrk.climbM_one (Nat.le_refl _)]
 by_cases h:ss.length=0
 ·have h2:ss=[]:=List.eq_nil_of_length_eq_zero h
  subst h2
  exact ⟨rfl,fun y hy=>by simpa using hy,by omega⟩
 ·have h2: ¬ss.map nb=[]:=fun e=>h (by have:=congrArg List.length e;rwa [List.length_map] at this)
  rw [if_neg h2,decide_eq_false h]
  exact ⟨rfl,fun y hy=>(by cases hy),by omega⟩
theorem ClimbOut.nil {l:ByteArray} {i n:Nat} {ss:List ByteArray} (h2:2≤n) (h:ss.length=0):ClimbOut l i n ss ByteArray.empty false:=by
 obtain rfl:ss=[]:=List.eq_nil_of_length_eq_zero h
 unfold ClimbOut
 rw [List.map_nil,Mrk.climbM_nil h2]
 exact ⟨rfl,fun y hy=>(by cases hy),by decide⟩
theorem ClimbOut.left {l:ByteArray} {i n K:Nat} {ss ps:List ByteArray} {s u u':ByteArray} {ok:Bool} (hss:ss=ps++[s]) (h2:2≤n) (hK:Mrk.spl n=K) (hi:i<K) (h:ClimbOut l i K ps u ok) (hu:nb u'=Mrk.node (nb u) (nb s)) (hz:u'.size=32):ClimbOut l i n ss u' ok:=by
 subst hss
 obtain ⟨h3,h4,_⟩:=h
 unfold ClimbOut
 rw [List.map_append,List.map_cons,List.map_nil,Mrk.climbM_left h2 (by rw [hK];exact hi),hK]
 refine ⟨by rw [h3,Option.isSome_map],fun y hy=> ?_,by omega⟩
 obtain ⟨z,hz1,rfl⟩:=Option.map_eq_some_iff.1 hy
 rw [hu,h4 z hz1]
theorem ClimbOut.right {l:ByteArray} {i n K J I:Nat} {ss ps:List ByteArray} {s u u':ByteArray} {ok:Bool} (hss:ss=ps++[s]) (h2:2≤n) (hK:Mrk.spl n=K) (hi: ¬i<K) (hI:i - K=I) (hJ:n - K=J) (h:ClimbOut l I J ps u ok) (hu:nb u'=Mrk.node (nb s) (nb u)) (hz:u'.size=32):ClimbOut l i n ss u' ok:=by
 subst hss
 obtain ⟨h3,h4,_⟩:=h
 unfold ClimbOut
 rw [List.map_append,List.map_cons,List.map_nil,Mrk.climbM_right h2 (by rw [hK];exact hi),hK,hI,hJ]
 refine ⟨by rw [h3,Option.isSome_map],fun y hy=> ?_,by omega⟩
 obtain ⟨z,hz1,rfl⟩:=Option.map_eq_some_iff.1 hy
 rw [hu,h4 z hz1]
theorem climbM_any (l:ByteArray) (hl:l.size=32): ∀(n:Nat),1≤n→n≤256→ ∀(i:Nat),i<n→ ∀(a:Option Addr) (cap L:Nat) (ss:List ByteArray),ss.length=L→L≤cap∧L≤1000000→(∀s ∈ ss,s.size=32)→ ∀(w:World),StrsAt w a ss→Laid w→
    Calls Tryz.prog 122 #[.string l,.int .i64 (i:Int),.int .i64 (n:Int),.slice a L cap] w fun e w'=> ∃(u:ByteArray) (ok:Bool),e= .returned (.tuple #[.string u,.bool ok])∧Hid (ClimbOut l i n ss u ok)∧Below w.heap.size w w':=by
 intro n
 induction n using Nat.strongRecOn with
 | ind n ih=>
   intro hn1 hn9 i hi a cap L ss hLe hcap h32 w hS hLd
   by_cases h2:2≤n
   rotate_left
   ·obtain rfl:n=1:=by omega
    by_cases hL0:L=0
    ·subst hL0
     have HO:Hid (ClimbOut l i 1 ss l true):=hid (by have h:=ClimbOut.one (i:=i) (ss:=ss) hl;rwa [decide_eq_true hLe] at h)
     clear ih h32 hS hLd hLe hcap h2 hi
     go_enter Tryz.func122,Tryz.ntmps122
     go_wp2_with fail
     go_ret2
     exact ⟨l,true,rfl,HO,Below.refl _ _⟩
    ·have HO:Hid (ClimbOut l i 1 ss l false):=hid (by have h:=ClimbOut.one (i:=i) (ss:=ss) hl;rwa [decide_eq_false (by rw [hLe];exact hL0)] at h)
     have hLi:((L:Int)==0)=false:=by rw [beq_eq_false_iff_ne];omega
     clear ih h32 hS hLd hLe hcap h2 hi hL0
     go_enter Tryz.func122,Tryz.ntmps122
     go_wp2_with fail
     go_ret2
     exact ⟨l,false,rfl,HO,Below.refl _ _⟩
   have hn1':((n:Int)==1)=false:=by rw [beq_eq_false_iff_ne];omega
   by_cases hL0:L=0
   ·subst hL0
    have HO:Hid (ClimbOut l i n ss ByteArray.empty false):=hid (ClimbOut.nil h2 hLe)
    clear ih h32 hS hLd hLe hcap h2 hi
    go_enter Tryz.func122,Tryz.ntmps122
    go_wp2_with fail
    go_ret2
    exact ⟨ByteArray.empty,false,rfl,HO,Below.refl _ _⟩
   have hLi:((L:Int)==0)=false:=by rw [beq_eq_false_iff_ne];omega
   obtain ⟨L1,hL1⟩: ∃L1,L=L1+1:=⟨L - 1,by omega⟩
   have hL1i:(L:Int) - 1=(L1:Int):=by omega
   have hL1w:IntKind.i64.wrap ((L:Int) - 1)=(L1:Int):=by rw [hL1i,IntKind.wrap_i64];omega
   have hL1L:(L1:Int)<(L:Int):=by omega
   have hL10:(0:Int)≤(L1:Int):=by omega
   have HSS:Hid (ss=ss.take L1++[ss.getD L1 ByteArray.empty]):=hid (by
    have h:=List.take_append_getElem (show L1<ss.length by omega)
    rw [lD,lE (show L1<ss.length by omega)]
    show ss=ss.take L1++[ss[L1]]
    rw [h,List.take_of_length_le (by omega)])
   obtain ⟨bA,oA,rfl,hcs⟩: ∃b o,a=some ⟨b,o,none⟩∧ ∀i,i<ss.length→w.cell? ⟨b,o+i,none⟩=some (.string (ss.getD i ByteArray.empty)):=by
    rcases hS with h | h
    ·rw [h] at hLe;simp at hLe;omega
    ·exact h
   have hc:=hcs L1 (by omega)
   have HS32:=hid (h32 _ (getD_mem ss L1 ByteArray.empty (by omega)))
   obtain ⟨s,hs⟩:=ex_eq (ss.getD L1 ByteArray.empty)
   rw [hs] at hc HS32 HSS
   have HCE:Hid (∀V,Below w.heap.size w V→V.cell? ⟨bA,oA+L1,none⟩=some (.string s)):=hid (fun V h=>(h.cell (World.block_lt_of_cell? _ _ hc)).trans hc)
   clear hcs hs hc
   have HA1:Hid (∀V,Below w.heap.size w V→StrsAt V (some ⟨bA,oA,none⟩) (ss.take L1)):=hid (fun V hV=>by
    have h1:=strsAt_sub (hS.later hV) (cap:=cap) (by omega) 0 L1
    rw [List.drop_zero,subA_some (by omega)] at h1
    exact h1)
   have hL1x:IntKind.i64.wrap (L1:Int)=(L1:Int):=by rw [← hL1i];exact hL1w.trans hL1i.symm
   have hLc:(L1:Int)≤(cap:Int):=by omega
   have HLD:Hid (∀V,Below w.heap.size w V→Laid V):=hid (fun V h=>hLd.later h (Nat.le_refl _))
   have hl1:(ss.take L1).length=L1:=by rw [List.length_take];omega
   have HSPL:Hid (∀w,Calls Tryz.prog 183 #[.int .i64 (n:Int)] w fun e w'=>e= .returned (.int .i64 ((Mrk.spl n:Nat):Int))∧w=w'):=hid (fun w=>split_any n h2 hn9 w)
   have hk1:=Mrk.spl_pos n
   have hk2:=Mrk.spl_lt h2
   have HN2:=hid h2
   obtain ⟨K,hK⟩:=ex_eq (Mrk.spl n)
   have HK0:=hid hK
   rw [hK] at HSPL hk1 hk2
   have hl9:L≤1000000:=hcap.2
   have hcp:L≤cap:=hcap.1
   clear hK hLe hS hLd hL1 hcap hL0 h2
   by_cases hik:i<K
   ·have hiki:(i:Int)<(K:Int):=by omega
    have HIH:=hid (fun w hS hL=>ih K hk2 hk1 (by omega) i hik (some ⟨bA,oA,none⟩) cap L1 (ss.take L1) hl1 ⟨by omega,by omega⟩ (fun s hs=>h32 s (List.mem_of_mem_take hs)) w hS hL)
    have HIK:=hid hik
    clear ih hl1 h32 hk1 hk2 hi hik hn1
    go_enter Tryz.func122,Tryz.ntmps122
    go_upto_region 5 with fail
    have HDR:Hid (Below w.heap.size w w.drew):=hid (Below.refl _ _).drew
    obtain ⟨VD,hVD⟩:=ex_eq w.drew
    rw [hVD] at HDR
    refine Kit.wp_region_gplan (fun V=>V.cell? ⟨bA,oA+L1,none⟩=some (.string s)) [(true,0),(true,1),(true,2),(true,3),(true,4),(true,5),(true,6),(true,7),(true,8),(true,9),(true,10),(true,11),(true,12)] (by kernel_rfl) (by kernel_rfl) (by kernel_rfl) (by kernel_rfl) (by rw [hVD];exact HCE.o _ HDR.o) ?_
    rw [hVD]
    clear hVD
    iterate 13 (refine Kit.ghd (h:= ?_))
    refine Kit.gdn (h:=?_)
    go_wp2_with (first
     | (go_at_call 183
        (refine (HSPL.o _).mono ?_)
        rintro e w2 ⟨rfl,rfl⟩)
     | (go_at_call 122
        (refine (HIH.o _ (HA1.o _ HDR.o) (HLD.o _ HDR.o)).mono ?_)
        rintro e w3 ⟨u3,ok3,rfl,ho3,h3⟩
        have HO3:=hid ho3.o
        have H3:Hid (Below w.heap.size w w3):=hid (HDR.o.trans (h3.mono HDR.o.size))
        clear ho3 h3)
     | (go_at_call 177
        (refine (node_g u3 s (HO3.o.2.2) (by rw [HS32.o];decide) _ (HLD.o _ H3.o)).mono ?_)
        rintro e w4 ⟨u4,rfl,hu4,hz4,h4⟩
        have HU4:=hid hu4
        have HZ4:=hid hz4
        have H4:=hid (H3.o.trans (h4.mono H3.o.size))
        clear hu4 hz4 h4))
    go_ret2
    exact ⟨u4,ok3,rfl,hid (ClimbOut.left HSS.o HN2.o HK0.o HIK.o HO3.o HU4.o HZ4.o),H4.o⟩
   ·have hiki: ¬(i:Int)<(K:Int):=by omega
    obtain ⟨I,hI⟩:=ex_eq (i - K)
    obtain ⟨J,hJ⟩:=ex_eq (n - K)
    have HIJ:=hid (And.intro hI hJ)
    have hIi:(i:Int) - (K:Int)=(I:Int):=by omega
    have hJi:(n:Int) - (K:Int)=(J:Int):=by omega
    have hI9:I≤1000:=by omega
    have hJ9:J≤1000:=by omega
    have HIH:=hid (fun w hS hL=>ih J (by omega) (by omega) (by omega) I (by omega) (some ⟨bA,oA,none⟩) cap L1 (ss.take L1) hl1 ⟨by omega,by omega⟩ (fun s hs=>h32 s (List.mem_of_mem_take hs)) w hS hL)
    have HIK:=hid hik
    clear ih hl1 h32 hk1 hk2 hi hik hn1 hI hJ
    go_enter Tryz.func122,Tryz.ntmps122
    go_upto_region 5 with fail
    have HDR:Hid (Below w.heap.size w w.drew):=hid (Below.refl _ _).drew
    obtain ⟨VD,hVD⟩:=ex_eq w.drew
    rw [hVD] at HDR
    refine Kit.wp_region_gplan (fun V=>V.cell? ⟨bA,oA+L1,none⟩=some (.string s)) [(true,0),(true,1),(true,2),(true,3),(true,4),(true,5),(true,6),(true,7),(true,8),(true,9),(true,10),(true,11),(true,12)] (by kernel_rfl) (by kernel_rfl) (by kernel_rfl) (by kernel_rfl) (by rw [hVD];exact HCE.o _ HDR.o) ?_
    rw [hVD]
    clear hVD
    iterate 13 (refine Kit.ghd (h:= ?_))
    refine Kit.gdn (h:=?_)
    go_wp2_with (first
     | (go_at_call 183
        (refine (HSPL.o _).mono ?_)
        rintro e w2 ⟨rfl,rfl⟩)
     | (go_at_call 122
        (refine (HIH.o _ (HA1.o _ HDR.o) (HLD.o _ HDR.o)).mono ?_)
        rintro e w3 ⟨u3,ok3,rfl,ho3,h3⟩
        have HO3:=hid ho3.o
        have H3:Hid (Below w.heap.size w w3):=hid (HDR.o.trans (h3.mono HDR.o.size))
        clear ho3 h3)
     | (go_at_call 177
        (refine (node_g s u3 (by rw [HS32.o];decide) (HO3.o.2.2) _ (HLD.o _ H3.o)).mono ?_)
        rintro e w4 ⟨u4,rfl,hu4,hz4,h4⟩
        have HU4:=hid hu4
        have HZ4:=hid hz4
        have H4:=hid (H3.o.trans (h4.mono H3.o.size))
        clear hu4 hz4 h4))
    go_ret2
    exact ⟨u4,ok3,rfl,hid (ClimbOut.right HSS.o HN2.o HK0.o HIK.o HIJ.o.1 HIJ.o.2 HO3.o HU4.o HZ4.o),H4.o⟩
theorem verifyM_ok (l:ByteArray) (hl:l.size=32) (i n:Nat) (hn1:1≤n) (hn9:n≤256) (hi:i<n) (a:Option Addr) (cap L:Nat) (ss:List ByteArray) (hLe:ss.length=L) (hcap:L≤cap) (hl9:L≤1000000) (h32: ∀s ∈ ss,s.size=32) (root:ByteArray) (hr:root.size=32) (w:World) (hS:StrsAt w a ss) (hLd:Laid w):
    Calls Tryz.prog 33 #[.string l,.int .i64 (i:Int),.int .i64 (n:Int),.slice a L cap,.string root] w fun e w'=>e= .returned (.bool (decide (Mrk.climbM (nb l) i n (ss.map nb)=some (nb root))))∧Below w.heap.size w w':=by
 obtain ⟨D,hD⟩:=ex_eq (decide (Mrk.climbM (nb l) i n (ss.map nb)=some (nb root)))
 have HD:=hid hD
 rw [hD]
 have HI1:=hid (fun w=>isSumM_any l w)
 have HI2:=hid (fun w=>isSumM_any root w)
 rw [decide_eq_true hl] at HI1
 rw [decide_eq_true hr] at HI2
 have HAS:=hid (areSumsM_any a cap L ss hLe (by omega) w hS)
 rw [all32_iff.2 h32] at HAS
 have HCL:Hid (∀V,Below w.heap.size w V→Calls Tryz.prog 122 #[.string l,.int .i64 (i:Int),.int .i64 (n:Int),.slice a L cap] V fun e w'=> ∃(u:ByteArray) (ok:Bool),e= .returned (.tuple #[.string u,.bool ok])∧Hid (ClimbOut l i n ss u ok)∧Below V.heap.size V w'):=hid (fun V h=>climbM_any l hl n hn1 hn9 i hi a cap L ss hLe ⟨hcap,hl9⟩ h32 V (hS.later h) (hLd.later h (Nat.le_refl _)))
 have hii:(i:Int)<(n:Int):=by omega
 have hi0: ¬(i:Int)<0:=by omega
 clear hD hl hr h32 hS hLd hLe hcap hi
 go_enter Tryz.func33,Tryz.ntmps33
 go_upto_region 4 with (first
  | (go_at_call 120
     (with_reducible refine (HI1.o _).mono ?_)
     rintro e w2 ⟨rfl,rfl⟩)
  | (go_at_call 120
     (with_reducible refine (HI2.o _).mono ?_)
     rintro e w2 ⟨rfl,rfl⟩)
  | (go_at_call 121
     (with_reducible refine HAS.o.mono ?_)
     rintro e w3 ⟨rfl,h3⟩
     have H3:=hid h3
     clear h3)
  | (go_at_call 122
     (with_reducible refine (HCL.o _ H3.o).mono ?_)
     rintro e w4 ⟨u,ok,rfl,ho,h4⟩
     have HO:=hid ho.o
     have H4:Hid (Below w.heap.size w w4):=hid (H3.o.trans (h4.mono H3.o.size))
     clear ho h4))
 cases ok
 ·have HF:Hid (D=false):=hid (by
     rw [← HD.o]
     refine decide_eq_false (fun h=> ?_)
     have h1:=HO.o.1
     rw [h] at h1
     cases h1)
  go_wp2_with fail
  go_ret
  exact ⟨by rw [HF.o];first | rfl | simp,H4.o⟩
 ·have HS:Hid (Mrk.climbM (nb l) i n (ss.map nb)=some (nb u)):=hid (by
     have h1:=HO.o.1
     cases hc:Mrk.climbM (nb l) i n (ss.map nb) with
     | none=>rw [hc] at h1;cases h1
     | some y=>rw [HO.o.2.1 y hc])
  have HE:Hid (D=decide (u=root)):=hid (by
   rw [← HD.o,HS.o]
   refine decide_eq_decide.2 ⟨fun h=>nb_inj (Option.some.inj h),fun h=>by rw [h]⟩)
  by_cases he:u=root
  ·have hq:(u.toList==root.toList)=true:=by rw [eq_str];exact decide_eq_true (congrArg nb he)
   have HT:Hid (D=true):=hid (by rw [HE.o];exact decide_eq_true he)
   clear he
   go_wp2_with fail
   go_ret
   exact ⟨by rw [HT.o];first | rfl | simp,H4.o⟩
  ·have hq:(u.toList==root.toList)=false:=by rw [eq_str];exact decide_eq_false (fun h=>he (nb_inj h))
   have HT:Hid (D=false):=hid (by rw [HE.o];exact decide_eq_false he)
   clear he
   go_wp2_with fail
   go_ret
   exact ⟨by rw [HT.o];first | rfl | simp,H4.o⟩
end Go.Proofs.YtndlihclgdkpaaaGreatDoor
