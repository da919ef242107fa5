/- Texts Pub, Sgn, Rec, Ver, RefD, Plg, App, merged. -/
import Derived.Great.BuildSlice
import Derived.Test.YtndlihclgdkpaaaGreatDoorGb
/- onetime: chainOf, publicKey, Public. -/
set_option linter.unusedVariables false
set_option linter.unusedSimpArgs false
open Go.Lib (hid)
set_option maxHeartbeats 4000000
set_option maxRecDepth 100000
namespace Go.Proofs.YtndlihclgdkpaaaGreatDoor
open Go.RowKit
open Kit (Chg)
open Sha (v)
open Go.Proofs.YtndlihclgdkpaaaGreatDoor.One

theorem chain_bad (i j m:Int) (x:ByteArray) (hb: ¬(0≤i∧i≤999∧0≤j∧j≤m∧m≤255∧x.size=32)) (w:World):
    Calls Tryz.prog 243 #[.int .i64 i,.int .i64 j,.int .i64 m,.string x] w fun e w'=>e= .returned (.tuple #[.string ByteArray.empty,.int .i64 1])∧w=w':=by
 by_cases h1:0≤i∧i≤999
 ·have HC:Hid (decide (0≤i∧i≤999)=true):=hid (decide_eq_true h1)
  by_cases h2:0≤j
  ·by_cases h3:j≤m
   ·by_cases h4:m≤255
    ·have HS:Hid (decide (x.size=32)=false):=hid (decide_eq_false (fun h=>hb ⟨h1.1,h1.2,h2,h3,h4,h⟩))
     clear hb h1
     go_enter Tryz.func243,Tryz.ntmps243
     go_wp2_with (first
      | (with_reducible refine (isSum_any x _).mono ?_;rintro e w2 ⟨rfl,rfl⟩;rw [HS.o])
      | (with_reducible refine (validChain_any i _).mono ?_;rintro e w2 ⟨rfl,rfl⟩;rw [HC.o]))
     go_ret2
     exact ⟨rfl,rfl⟩
    ·clear hb h1
     go_enter Tryz.func243,Tryz.ntmps243
     go_wp2_with (first
      | (with_reducible refine (validChain_any i _).mono ?_;rintro e w2 ⟨rfl,rfl⟩;rw [HC.o]))
     go_ret2
     exact ⟨rfl,rfl⟩
   ·clear hb h1
    go_enter Tryz.func243,Tryz.ntmps243
    go_wp2_with (first
     | (with_reducible refine (validChain_any i _).mono ?_;rintro e w2 ⟨rfl,rfl⟩;rw [HC.o]))
    go_ret2
    exact ⟨rfl,rfl⟩
  ·clear hb h1
   go_enter Tryz.func243,Tryz.ntmps243
   go_wp2_with (first
    | (with_reducible refine (validChain_any i _).mono ?_;rintro e w2 ⟨rfl,rfl⟩;rw [HC.o]))
   go_ret2
   exact ⟨rfl,rfl⟩
 ·have HC:Hid (decide (0≤i∧i≤999)=false):=hid (decide_eq_false h1)
  clear hb h1
  go_enter Tryz.func243,Tryz.ntmps243
  go_wp2_with (first
   | (with_reducible refine (validChain_any i _).mono ?_;rintro e w2 ⟨rfl,rfl⟩;rw [HC.o]))
  go_ret2
  exact ⟨rfl,rfl⟩
theorem chainOf_ok (seed:ByteArray) (hs:seed.size=32) (c:Nat) (hc:c≤999) (w:World) (hL:Laid w):
    Calls Tryz.prog 173 #[.string seed,.int .i64 (c:Int)] w fun e w'=> ∃(b1 b2:Nat) (u:ByteArray),e= .returned (.func (.func 242) #[] #[.pointer (some ⟨b1,0,none⟩),.pointer (some ⟨b2,0,none⟩)])∧w'.cell? ⟨b1,0,none⟩=some (.int .i64 (c:Int))∧w'.cell? ⟨b2,0,none⟩=some (.string u)∧nb u=secret (nb seed) c∧Below w.heap.size w w':=by
 have HL:=hid hL
 have HS:=hid hs
 have HC:=hid hc
 clear hL hs hc
 go_enter Tryz.func173,Tryz.ntmps173
 go_upto_region 1 with fail
 refine wp_over (fun W=>Hid (W.heap[w.heap.size]? =some (.cells #[.int .i64 (c:Int)] 3 (0,0)))∧Hid (Below w.heap.size w W)) ⟨heap_alloc_new _ _,(Below.refl _ _).alloc (Nat.le_refl _) _⟩ ?_
 rintro W ⟨HG,HB⟩
 obtain ⟨N,hN⟩:=ex_eq w.heap.size
 rw [hN] at HG HB ⊢
 have HN:=hid hN
 clear hN
 have c0:W.cell? ⟨N,0,none⟩=some (.int .i64 (c:Int)):=cr HG.o
 have HLW:Hid (Laid W):=hid (HL.o.later HB.o (by rw [HN.o];exact Nat.le_refl _))
 go_upto_region 2 with (first
  | (with_reducible refine (secret_ok seed HS.o c HC.o _ HLW.o).mono ?_
     rintro e w2 ⟨u,rfl,hu,h2⟩
     have HU:=hid hu
     have H2:=hid h2
     have d0:w2.cell? ⟨N,0,none⟩=some (.int .i64 (c:Int)):=(h2.cell (World.block_lt_of_cell? W _ c0)).trans c0
     clear hu h2 c0))
 have HNW:Hid (N<W.heap.size):=hid (gS HG.o).1
 have HF:Hid ((w2.alloc (.cells #[.string u] 9)).cell? ⟨N,0,none⟩=some (.int .i64 (c:Int))∧(w2.alloc (.cells #[.string u] 9)).cell? ⟨w2.heap.size,0,none⟩=some (.string u)∧Below N w (w2.alloc (.cells #[.string u] 9))):=hid ⟨((Below.refl _ w2).alloc (Nat.le_refl _) _).cell (World.block_lt_of_cell? w2 _ d0) |>.trans d0,(cell_of_row _ _ _ _ _ _ (heap_alloc_new _ _)).trans rfl,(HB.o.trans (H2.o.mono (Nat.le_of_lt HNW.o))).alloc (by have:=HNW.o;have:=H2.o.size;omega) _⟩
 go_wp2_with fail
 go_ret
 exact ⟨N,w2.heap.size,u,rfl,HF.o.1,HF.o.2.1,HU.o,by rw [HN.o];exact HF.o.2.2⟩
theorem at_ok (b1 b2:Nat) (c m:Nat) (hc:c≤999) (hm:m≤255) (u:ByteArray) (hu:u.size=32) (w:World) (h1:w.cell? ⟨b1,0,none⟩=some (.int .i64 (c:Int))) (h2:w.cell? ⟨b2,0,none⟩=some (.string u)) (hL:Laid w):
    Calls Tryz.prog 242 #[.int .i64 (m:Int),.pointer (some ⟨b1,0,none⟩),.pointer (some ⟨b2,0,none⟩)] w fun e w'=> ∃y:ByteArray,e= .returned (.string y)∧nb y=chain c 0 m (nb u)∧Below w.heap.size w w':=by
 have HL:=hid hL
 have HCH:=hid (fun w hL=>chain_ok c 0 m hc (Nat.zero_le _) hm u hu w hL)
 rw [show (((0:Nat)):Int)=0 from rfl,Nat.sub_zero] at HCH
 clear hL hc hm
 go_enter Tryz.func242,Tryz.ntmps242
 go_wp2_with (first
  | (with_reducible refine (HCH.o _ HL.o).mono ?_
     rintro e w2 ⟨y,rfl,hy,h2⟩
     have HY:=hid hy
     have H2:=hid h2
     clear hy h2))
 go_ret
 exact ⟨y,rfl,HY.o,H2.o⟩
theorem pub_lit:nb { data:= #[112,117,98,108,105,99] }=publicB:=rfl
theorem publicKey_any (a:Option Addr) (cap:Nat) (vs:List ByteArray) (L:Nat) (hLe:vs.length=L) (h0:0<vs.length) (hN:vs.length≤1000) (hcap:vs.length≤cap) (h32: ∀s ∈ vs,s.size=32) (w:World) (hS:StrsAt w a vs) (hL:Laid w):
    Calls Tryz.prog 175 #[.slice a L cap] w fun e w'=> ∃u:ByteArray,e= .returned (.string u)∧nb u=pubOf (vs.map nb)∧Below w.heap.size w w':=by
 obtain ⟨b,o,rfl,hcs⟩: ∃b o,a=some ⟨b,o,none⟩∧ ∀i,i<vs.length→w.cell? ⟨b,o+i,none⟩=some (.string (vs.getD i ByteArray.empty)):=by
  rcases hS with h | h
  ·subst h;simp at h0
  ·exact h
 have hcl:(catB vs).length=32*vs.length:=by
  clear hcs hS hcap h0 hN hLe
  induction vs with
  | nil=>rfl
  | cons v vs ih=>
    unfold catB at ih ⊢
    rw [List.flatMap_cons,List.length_append,ih (fun s hs=>h32 s (List.mem_cons_of_mem _ hs)),nb_length,h32 v (List.mem_cons_self ..),List.length_cons]
    omega
 have HL:=hid hL
 have HCS:=hid hcs
 have HLE:=hid hLe
 have H0:=hid h0
 have HN:=hid hN
 have HCAP:=hid hcap
 have HCL:=hid hcl
 have HPUB:Hid (Sha.sum (publicB++catB vs)=pubOf (vs.map nb)):=hid (by unfold pubOf catB;rw [List.flatMap_def])
 clear hL hcs hLe h0 hN hcap hcl h32 hS
 go_enter Tryz.func175,Tryz.ntmps175
 go_wp2_with (first
  | (with_reducible refine (glue_l b o cap vs L HLE.o H0.o (by have:=HN.o;omega) HCAP.o (by rw [HCL.o];have:=HN.o;omega) _ HCS.o (catB vs) rfl).mono ?_
     rintro e w2 ⟨g,rfl,hg,h2⟩
     have HG:=hid hg
     have H2:=hid h2
     clear hg h2
     have HST:Hid (∀W,W=w2.alloc (.cells #[.string { data:= #[112,117,98,108,105,99] },.string g] 9)→StrsAt W (some ⟨w2.heap.size,0,none⟩) [{ data:= #[112,117,98,108,105,99] },g]∧Below w.heap.size w W):=hid (fun W e=>by
      subst e
      exact ⟨strs_of_row (ss:=[{ data:= #[112,117,98,108,105,99] },g]) (heap_alloc_new _ _),H2.o.alloc H2.o.size _⟩)
     have HT:Hid (catB [{ data:= #[112,117,98,108,105,99] },g]=publicB++catB vs):=hid (by
      unfold catB at*
      rw [List.flatMap_cons,List.flatMap_cons,List.flatMap_nil,List.append_nil,HG.o,pub_lit]))
  | (with_reducible refine (join_l (some ⟨w2.heap.size,0,none⟩) 2 [{ data:= #[112,117,98,108,105,99] },g] 2 rfl (by rw [HT.o,List.length_append,HCL.o,show publicB.length=6 from rfl];have:=HN.o;omega) (by simp) _ (HST.o _ rfl).1 (HL.o.later (HST.o _ rfl).2 (Nat.le_refl _)) (publicB++catB vs) HT.o).mono ?_
     rintro e w3 ⟨u,rfl,hu,h3⟩
     have HU:=hid hu
     have H3:Hid (Below w.heap.size w w3):=hid ((HST.o _ rfl).2.trans (h3.mono (HST.o _ rfl).2.size))
     clear hu h3))
 go_ret
 exact ⟨u,rfl,by rw [HU.o];exact HPUB.o,H3.o⟩
theorem count_le {b n:Nat} (hB:Bits b) (hn2:n≤32):count b n≤269:=by
 have h:=cnt_le hB (great_le hB hn2)
 unfold count
 rcases hB with rfl | rfl | rfl | rfl<;> omega
theorem count_pos {b n:Nat} (hB:Bits b):0<count b n:=by unfold count cnt;exact Nat.add_pos_right _ (Nat.succ_pos _)
theorem vp_of {b n:Nat} (hB:Bits b) (hn:0<n) (hn2:n≤32):VP (b:Int) (n:Int):=⟨by rcases hB with rfl | rfl | rfl | rfl<;> simp,by omega,by omega⟩
theorem last_le {b:Nat} (hB:Bits b):last b≤255:=by rcases hB with rfl | rfl | rfl | rfl<;> decide
theorem range_snoc {α:Type} (f:Nat→α) (k:Nat):(List.range (k+1)).map f=(List.range k).map f++[f k]:=by rw [List.range_succ,List.map_append];rfl
theorem public_ok (b n:Nat) (hB:Bits b) (hn:0<n) (hn2:n≤32) (seed:ByteArray) (hs:seed.size=32) (w:World) (hL:Laid w):
    Calls Tryz.prog 81 #[.agg #[.int .i64 (b:Int),.int .i64 (n:Int)],.string seed] w fun e w'=> ∃u:ByteArray,e= .returned (.tuple #[.string u,.int .i64 0])∧nb u=pub b (nb seed) (count b n)∧Below w.heap.size w w':=by
 have HV:Hid (decide (VP (b:Int) (n:Int))=true):=hid (decide_eq_true (vp_of hB hn hn2))
 have HS:Hid (decide (seed.size=32)=true):=hid (decide_eq_true hs)
 have HSS:=hid hs
 have HCH:=hid (fun w=>chains_ok b n hB hn hn2 w)
 have HLA:=hid (fun w=>last_any (b:Int) (n:Int) b rfl hB w)
 have hC:=count_le hB hn2
 have hC0:=count_pos (n:=n) hB
 have hLL:=last_le hB
 have HL:=hid hL
 have HPU:Hid (pub b (nb seed) (count b n)=pubOf ((List.range (count b n)).map fun i=>chain i 0 (last b) (secret (nb seed) i))):=rfl
 obtain ⟨C,hCe⟩:=ex_eq (count b n)
 obtain ⟨L,hLe⟩:=ex_eq (last b)
 rw [hLe] at hLL HLA HPU
 rw [hCe] at hC hC0 HPU ⊢
 have HCE:=hid hCe
 clear hL hs hB hn hn2 hCe hLe
 obtain ⟨i0,hi0,hz0,hz1,hz2⟩:=info_parts Tryz.info9
 have FI:=hid hi0
 have FZ0:=hid hz0
 have FZ1:=hid hz1
 have FZ2:=hid hz2
 clear hi0 hz0 hz1 hz2
 go_enter Tryz.func81,Tryz.ntmps81
 go_upto_region 1 with fail
 refine wp_over (fun W=>Hid (W.heap[w.heap.size]? =some (.cells #[.int .i64 (b:Int),.int .i64 (n:Int)] 139 (0,0)))∧Hid (Below w.heap.size w W)) ⟨heap_alloc_new _ _,(Below.refl _ _).alloc (Nat.le_refl _) _⟩ ?_
 rintro W ⟨HG,HB⟩
 obtain ⟨N,hN⟩:=ex_eq w.heap.size
 rw [hN] at HG HB ⊢
 have HN:=hid hN
 clear hN
 have HWN:Hid (N+1≤W.heap.size):=hid (gS HG.o).1
 have HCEL:Hid (∀V,Below (N+1) W V→V.cell? ⟨N,0,none⟩=some (.int .i64 (b:Int))∧V.cell? ⟨N,1,none⟩=some (.int .i64 (n:Int))):=hid (fun V h=>by
  have hg:=(h.block N (Nat.lt_succ_self N)).trans HG.o
  exact ⟨cr hg,cr hg⟩)
 have HLD:Hid (∀V,Below (N+1) W V→Laid V):=hid (fun V h=>HL.o.later (HB.o.trans (h.mono (Nat.le_succ N))) (by rw [HN.o];exact Nat.le_refl _))
 obtain ⟨c0,c1⟩:=HCEL.o W (Below.refl _ _)
 go_upto_region 3 with (first
  | (with_reducible refine (valid_any (b:Int) (n:Int) _).mono ?_
     rintro e w2 ⟨rfl,h2⟩
     rw [HV.o]
     have H2:=hid (h2.mono HWN.o)
     clear h2 c0 c1
     obtain ⟨c0,c1⟩:=HCEL.o w2 H2.o)
  | (with_reducible refine (isSum_any seed _).mono ?_;rintro e w3 ⟨rfl,rfl⟩;rw [HS.o]))
 go_upto_region 5 with (first
  | (with_reducible refine (HCH.o _).mono ?_
     rintro e w4 ⟨m,rfl,hm,h4⟩
     rw [HCE.o] at hm
     have hm2:=hm.symm
     subst hm2
     have H4:=hid (H2.o.trans (h4.mono (by have:=H2.o.size;have:=HWN.o;omega)))
     clear h4 c0 c1))
 go_loopw [6,19] (fun x y wr=> ∃(k:Nat) (vs:List ByteArray),k≤C∧y= .int .i64 (k:Int)∧vs.length=k∧Hid (vs.map nb=(List.range k).map fun i=>chain i 0 L (secret (nb seed) i))∧Hid (wr.ownsRow (N+1) 9 1 x k (strV vs))∧Hid (Below (N+1) W wr)) (fun _ y _=>C - (intOf y).toNat)
 case atStart=>exact ⟨0,[],by omega,rfl,rfl,rfl,⟨rfl,.inl ⟨rfl,rfl⟩⟩,H4.o⟩
 case round=>
  obtain ⟨k,vs,hk,rfl,hvl,HVS,HOW,HBE⟩:=hrel
  have HVL:=hid hvl
  clear hvl
  by_cases hlt:k<C
  ·have hki:(k:Int)<(C:Int):=by omega
   have hk9:k≤999:=by omega
   go_upto_region 8 with (first
    | (with_reducible refine (chainOf_ok seed HSS.o k hk9 _ (HLD.o _ HBE.o)).mono ?_
       rintro e w5 ⟨b1,b2,u,rfl,h51,h52,hu,h5⟩
       have HU:=hid hu
       have H51:=hid h51
       have H52:=hid h52
       have H5:=hid h5
       have HBE5:Hid (Below (N+1) W w5):=hid (HBE.o.trans (h5.mono (by have:=HBE.o.size;have:=HWN.o;omega)))
       clear hu h51 h52 h5))
   have HO5:Hid (w5.ownsRow (N+1) 9 1 u6 k (strV vs)):=hid (ownsRow_keep HOW.o (Chg.of_below (M:=fun _ _=>False) H5.o) (fun _ _ _ h=>h))
   obtain ⟨c0,c1⟩:=HCEL.o w5 HBE5.o
   go_upto_region 9 with (first
    | (go_at_call 174
       (with_reducible refine (HLA.o _).mono ?_)
       rintro e w6 ⟨rfl,h6⟩
       have H6:=hid h6
       have H61:Hid (w6.cell? ⟨b1,0,none⟩=some (.int .i64 (k:Int))):=hid ((h6.cell (World.block_lt_of_cell? w5 _ H51.o)).trans H51.o)
       have H62:Hid (w6.cell? ⟨b2,0,none⟩=some (.string u)):=hid ((h6.cell (World.block_lt_of_cell? w5 _ H52.o)).trans H52.o)
       have HBE6:Hid (Below (N+1) W w6):=hid (HBE5.o.trans (h6.mono (by have:=HBE5.o.size;have:=HWN.o;omega)))
       clear h6)
    | (go_at_call 242
       (with_reducible refine (at_ok b1 b2 k L hk9 hLL u (nb_size HU.o (secret_length _ _)) w6 H61.o H62.o (HLD.o _ HBE6.o)).mono ?_)
       rintro e w7 ⟨y,rfl,hy,h7⟩
       have HY:=hid hy
       have HBE7:Hid (Below (N+1) W w7):=hid (HBE6.o.trans (h7.mono (by have:=HBE6.o.size;have:=HWN.o;omega)))
       have HO7:Hid (w7.ownsRow (N+1) 9 1 u6 k (strV vs)):=hid (ownsRow_keep HO5.o ((Chg.of_below (M:=fun _ _=>False) H6.o).trans (Chg.of_below (M:=fun _ _=>False) h7)) (fun _ _ _ h=>h))
       clear hy h7)
    | (at_builtin
       refine wpList_append_own _ rfl _ _ 43 rfl (N+1) 9 i0 (.string ByteArray.empty) 1 16 Tryz.underlying43 FI.o FZ0.o FZ1.o FZ2.o rfl (by decide) _ _ _ rfl (HO7.o.alloc _) ⟨w7.heap.size,0,none⟩ 1 1 [.string y] rfl rfl (cell_one_new _ _ _) (by simp [Value.oneCell']) (by unfold maxLen;omega) (by omega) (by have:=HBE7.o.size;have:=HWN.o;simp;omega) ?_
       intro v8 w8 hown8 hgr8 _
       have HO8:Hid (w8.ownsRow (N+1) 9 1 v8 (k+1) (strV (vs++[y]))):=by rw [strV_app];exact hown8
       have HC8:Hid (Chg (fun q _=>N+1≤q) w7 w8):=(Chg.alloc1 w7 _).trans (Chg.of_grown hgr8 (fun q _ e=>(HO7.o.lt q e).1))
       have HBE8:Hid (Below (N+1) W w8):=hid (HBE7.o.trans (HC8.o.below (by have:=HBE7.o.size;have:=HWN.o;omega) (fun q i hq h=>by omega)))
       clear hown8 hgr8))
   go_wp2_with fail
   go_roundw
   case rel=>
    refine ⟨k+1,vs++[y],hlt,by go_num,by rw [List.length_append,HVL.o];rfl,?_,HO8.o,HBE8.o⟩
    show _=_
    rw [List.map_append,HVS.o,range_snoc]
    simp [HY.o,HU.o]
   case measure=>simp [intOf];omega
  ·have hke:k=C:=by omega
   have hki: ¬(k:Int)<(C:Int):=by omega
   obtain ⟨a9,cp9,hv9,hl9,hc9,hS9,hnil9,hlt9⟩:=strs_of_own HOW.o
   subst hv9
   have HS9:=hid hS9
   have HL9:=hid hl9
   have HC9:=hid hc9
   have HKE:=hid hke
   have H32:Hid (∀s ∈ vs,s.size=32):=hid (fun s hs=>by
    have h1:nb s ∈ vs.map nb:=List.mem_map.2 ⟨s,hs,rfl⟩
    rw [HVS.o] at h1
    obtain ⟨i,_,he⟩:=List.mem_map.1 h1
    rw [← nb_length,← he]
    exact chain_length _ _ _ _ (secret_length _ _))
   clear hS9 hl9 hc9 hnil9 hlt9 hke
   go_wp2_with (first
    | (with_reducible refine (publicKey_any a9 cp9 vs k HL9.o (by rw [HL9.o];omega) (by rw [HL9.o];omega) HC9.o H32.o _ HS9.o (HLD.o _ HBE.o)).mono ?_
       rintro e w6 ⟨u,rfl,hu,h6⟩
       have HU:=hid hu
       have H6:Hid (Below (N+1) W w6):=hid (HBE.o.trans (h6.mono (by have:=HBE.o.size;have:=HWN.o;omega)))
       clear hu h6))
   go_ret2
   exact ⟨u,rfl,by rw [HU.o,HVS.o,HPU.o,HKE.o],by rw [HN.o];exact HB.o.trans (H6.o.mono (Nat.le_succ N))⟩
theorem own_ints {w:World} {base n:Nat} {v:Value} {zs:List Nat} (h:w.ownsRow base 3 1 v n (natV zs)):
    ∃a cap,v= .slice a n cap∧zs.length=n∧zs.length≤cap∧IntsAt w a zs∧(a=none→cap=0):=by
 obtain ⟨hn,a,cap,rfl,h1,h2,h3,h4⟩:=ints_of_own h
 exact ⟨a,cap,by rw [hn],hn.symm,h1,h3,h4⟩
theorem mk_strs (L:Nat) (hL:L≤100000) (W:World):(Instr.makeSlice 43 (.int .i64 (L:Int)) (.int .i64 (L:Int))).run Tryz.prog W= .ok (.slice (some ⟨W.heap.size,0,none⟩) L L) (W.alloc (.cells (strV (List.replicate L ByteArray.empty)).toArray 9)):=by
 obtain ⟨i0,hi0,hz0,hz1,hz2⟩:=info_parts Tryz.info9
 have h:=run_makeSlice (P:= Tryz.prog) (w:=W) 43 9 i0 _ Tryz.underlying43 hi0 hz0 .i64 .i64 (L:Int) (L:Int) (by omega) (by omega) (by rw [hz1];omega) (by rw [hz2];omega) (by omega)
 rw [h,hz1]
 simp only [Int.toNat_natCast,Nat.mul_one]
 have e:madeCells (Value.string ByteArray.empty).cells L=(strV (List.replicate L ByteArray.empty)).toArray:=by
  unfold madeCells strV
  simp [Value.cells]
  apply Array.ext
  ·simp
  ·intro i h1 h2
   simp [Nat.mod_one]
 rw [e]
theorem set_next {vs:List ByteArray} {k L:Nat} (y:ByteArray) (hv:vs.length=k) (hk:k<L):(vs++List.replicate (L - k) ByteArray.empty).set k y=(vs++[y])++List.replicate (L - (k+1)) ByteArray.empty:=by
 subst hv
 rw [List.set_append_right _ _ (Nat.le_refl _),Nat.sub_self,show L - vs.length=(L - (vs.length+1))+1 by omega,List.replicate_succ,List.set_cons_zero]
 simp
theorem strV_set (ss:List ByteArray) (k:Nat) (y:ByteArray):(strV ss).toArray.setIfInBounds k (.string y)=(strV (ss.set k y)).toArray:=by
 simp [strV]
theorem sign_ok (b:Nat) (digest:ByteArray) (hB:Bits b) (hn:0<digest.size) (hn2:digest.size≤32) (seed:ByteArray) (hs:seed.size=32) (w:World) (hL:Laid w):
    Calls Tryz.prog 184 #[.agg #[.int .i64 (b:Int),.int .i64 (digest.size:Int)],.string seed,.string digest] w fun e w'=> ∃(g L:Nat) (vs:List ByteArray),e= .returned (.tuple #[.slice (some ⟨g,0,none⟩) L L,.int .i64 0])∧vs.length=L∧L=count b digest.size∧vs.map nb=sign (nb seed) (One.digits b (nb digest))∧StrsAt w' (some ⟨g,0,none⟩) vs∧w.heap.size≤g∧Below w.heap.size w w':=by
 have HS:Hid (decide (seed.size=32)=true):=hid (decide_eq_true hs)
 have HSS:=hid hs
 have HDG:=hid (fun w=>digits_ok b digest hB hn hn2 w)
 have HDL:Hid ((One.digits b (nb digest)).length=count b digest.size):=hid (by rw [digits_length hB,nb_length])
 have HD255:Hid (∀x ∈ One.digits b (nb digest),x≤255):=hid (fun x hx=>by
  have h1:=digits_lt b _ x hx
  have h2:=last_le hB
  unfold last at h2
  omega)
 have hC:=count_le hB hn2
 have HL:=hid hL
 obtain ⟨DG,hDG⟩:=ex_eq (One.digits b (nb digest))
 rw [hDG] at HDG HDL HD255 ⊢
 have HSG:Hid (sign (nb seed) DG=(List.range DG.length).map fun i=>chain i 0 (DG.getD i 0) (secret (nb seed) i)):=rfl
 obtain ⟨C,hCe⟩:=ex_eq (count b digest.size)
 rw [hCe] at hC HDL ⊢
 clear hL hs hB hn hn2 hCe hDG
 go_enter Tryz.func184,Tryz.ntmps184
 go_upto_region 1 with fail
 refine wp_over (fun W=>Hid (W.heap[w.heap.size]? =some (.cells #[.int .i64 (b:Int),.int .i64 (digest.size:Int)] 139 (0,0)))∧Hid (Below w.heap.size w W)) ⟨heap_alloc_new _ _,(Below.refl _ _).alloc (Nat.le_refl _) _⟩ ?_
 rintro W ⟨HG,HB⟩
 obtain ⟨N,hN⟩:=ex_eq w.heap.size
 rw [hN] at HG HB ⊢
 have HN:=hid hN
 clear hN
 have HWN:Hid (N+1≤W.heap.size):=hid (gS HG.o).1
 have HLD:Hid (∀V,Below N w V→Laid V):=hid (fun V h=>HL.o.later h (by rw [HN.o];exact Nat.le_refl _))
 have c0:W.cell? ⟨N,0,none⟩=some (.int .i64 (b:Int)):=cr HG.o
 have c1:W.cell? ⟨N,1,none⟩=some (.int .i64 (digest.size:Int)):=cr HG.o
 go_upto_region 4 with (first
  | (with_reducible refine (HDG.o _).mono ?_
     rintro e w2 ⟨x,L,rfl,hL,hown,h2⟩
     rw [HDL.o] at hL
     have hL2:=hL.symm
     subst hL2
     obtain ⟨a2,cp2,rfl,hl2,hc2,hI2,hnil2⟩:=own_ints hown
     have HI2:=hid hI2
     have HL2:=hid hl2
     have H2:Hid (Below N w w2):=hid (HB.o.trans (h2.mono (by have:=HWN.o;omega)))
     clear h2 hown hl2 hc2 hI2 hnil2 hL)
  | (with_reducible refine (isSum_any seed _).mono ?_;rintro e w3 ⟨rfl,rfl⟩;rw [HS.o]))
 rename World=>w2
 clear c0 c1
 have hmk:=mk_strs C (by omega)
 go_upto_region 5 with fail
 refine wp_over (fun W=>Hid (W.heap[w2.heap.size]? =some (.cells (strV (List.replicate C ByteArray.empty)).toArray 9 (0,0)))∧Hid (Below w2.heap.size w2 W)) ⟨heap_alloc_new _ _,(Below.refl _ _).alloc (Nat.le_refl _) _⟩ ?_
 rintro V ⟨HGV,HBV⟩
 obtain ⟨G,hGe⟩:=ex_eq w2.heap.size
 rw [hGe] at HGV HBV ⊢
 have HGE:=hid hGe
 have HNG:Hid (N≤G):=hid (by rw [← hGe];have:=HB.o.size;have:=H2.o.size;have:=HN.o;omega)
 clear hGe hmk
 go_upto_region 6 with fail
 go_loopw [32] (fun y wr=> ∃(k:Nat) (vs:List ByteArray),k≤C∧y= .int .i64 (k:Int)∧vs.length=k∧Hid (vs.map nb=(List.range k).map fun i=>chain i 0 (DG.getD i 0) (secret (nb seed) i))∧Hid (wr.heap[G]? =some (.cells (strV (vs++List.replicate (C - k) ByteArray.empty)).toArray 9 (0,0)))∧Hid (Below G w2 wr)) (fun y _=>C - (intOf y).toNat)
 case atStart=>exact ⟨0,[],by omega,rfl,rfl,rfl,HGV.o,HBV.o⟩
 case round=>
  obtain ⟨k,vs,hk,rfl,hvl,HVS,HROW,HBE⟩:=hrel
  have HVL:=hid hvl
  clear hvl
  by_cases hlt:k<C
  ·have hki:(k:Int)<(C:Int):=by omega
   have hk9:k≤999:=by omega
   obtain ⟨b',o',rfl,hcs⟩: ∃b o,a2=some ⟨b,o,none⟩∧ ∀i,i<DG.length→wr.cell? ⟨b,o+i,none⟩=some (.int .i64 ((DG.getD i 0:Nat):Int)):=by
    rcases HI2.o.later (by rw [HGE.o];exact HBE.o) with h | h
    ·have:=HL2.o;rw [h] at this;simp at this;omega
    ·exact h
   have hck:=hcs k (by rw [HL2.o];exact hlt)
   have hd255:DG.getD k 0≤255:=by
    rw [lD,lE (by rw [HL2.o];exact hlt)];exact HD255.o _ (List.getElem_mem _)
   obtain ⟨d,hd⟩:=ex_eq (DG.getD k 0)
   rw [hd] at hck hd255
   have HD:=hid hd
   clear hcs hd
   have HWR:Hid (G+1≤wr.heap.size):=hid (gS HROW.o).1
   have HBW:Hid (Below N w wr):=hid (H2.o.trans (HBE.o.mono HNG.o))
   go_upto_region 9 with (first
    | (with_reducible refine (chainOf_ok seed HSS.o k hk9 _ (HLD.o _ HBW.o)).mono ?_
       rintro e w5 ⟨b1,b2,u,rfl,h51,h52,hu,h5⟩
       have HU:=hid hu
       have H51:=hid h51
       have H52:=hid h52
       have H5:=hid h5
       clear hu h51 h52 h5))
   clear hck
   have HBW5:Hid (Below N w w5):=hid (HBW.o.trans (H5.o.mono (by have:=HWR.o;have:=HNG.o;omega)))
   have HROW5:Hid (w5.heap[G]? =some (.cells (strV (vs++List.replicate (C - k) ByteArray.empty)).toArray 9 (0,0))):=hid ((H5.o.block G (by have:=HWR.o;omega)).trans HROW.o)
   go_upto_region 10 with (first
    | (go_at_call 242
       (with_reducible refine (at_ok b1 b2 k d hk9 hd255 u (nb_size HU.o (secret_length _ _)) w5 H51.o H52.o (HLD.o _ HBW5.o)).mono ?_)
       rintro e w7 ⟨y,rfl,hy,h7⟩
       have HY:=hid hy
       have hrow7:=(h7.block G (by have:=(gS HROW5.o).1;omega)).trans HROW5.o
       have HROW7:=hid hrow7
       have HB7:Hid (Below G w2 w7):=hid (HBE.o.trans ((H5.o.mono (by have:=HWR.o;omega)).trans (h7.mono (by have:=(gS HROW5.o).1;omega))))
       have hfz:w7.frozen? ⟨G,k,none⟩=false:=frozen_of_row _ _ _ _ _ hrow7
       obtain ⟨old,hold⟩: ∃old,w7.cell? ⟨G,k,none⟩=some old:=⟨_,(cell_of_row _ _ _ _ _ _ hrow7).trans (Array.getElem?_eq_getElem (by rw [List.size_toArray,strV_length,List.length_append,HVL.o,List.length_replicate];omega))⟩
       clear hy h7 hrow7))
   go_wp2_with fail
   go_roundw
   case rel=>
    refine ⟨k+1,vs++[y],hlt,by go_num,by rw [List.length_append,HVL.o];rfl,?_,?_,?_⟩
    ·show _=_
     rw [List.map_append,HVS.o,range_snoc]
     simp only [List.map_cons,List.map_nil,HY.o,HU.o,HD.o]
    ·show _=_
     rw [heap_setCell_same _ _ _ _ _ _ HROW7.o,strV_set,set_next y HVL.o hlt]
    ·exact HB7.o.setCell (p:=⟨G,k,none⟩) (Nat.le_refl _) _
   case measure=>simp [intOf];omega
  ·have hke:k=C:=by omega
   subst hke
   have HROWE:Hid (wr.heap[G]? =some (.cells (strV vs).toArray 9 (0,0))):=hid (by have h:=HROW.o;rw [Nat.sub_self,List.replicate_zero,List.append_nil] at h;exact h)
   go_wp2_with fail
   go_ret2
   exact ⟨G,k,vs,rfl,HVL.o,rfl,by rw [HVS.o,HSG.o,HL2.o],strs_of_row HROWE.o,by rw [HN.o];exact HNG.o,by rw [HN.o];exact H2.o.trans (HBE.o.mono HNG.o)⟩
theorem getD_mem {α:Type} (l:List α) (i:Nat) (d:α) (h:i<l.length):l.getD i d ∈ l:=by
 rw [lD,lE h];exact List.getElem_mem h
theorem getD_map (ss:List ByteArray) (i:Nat) (h:i<ss.length):(ss.map nb).getD i []=nb (ss.getD i ByteArray.empty):=by
 simp [lD,h]
theorem recover_run (b:Nat) (digest:ByteArray) (hB:Bits b) (hn:0<digest.size) (hn2:digest.size≤32) (a:Option Addr) (cap L:Nat) (ss:List ByteArray) (hLe:ss.length=L) (hLC:L=count b digest.size) (w:World) (hS:StrsAt w a ss) (hL:Laid w):
    Calls Tryz.prog 258 #[.agg #[.int .i64 (b:Int),.int .i64 (digest.size:Int)],.string digest,.slice a L cap] w fun e w'=>
     ((∀s ∈ ss,s.size=32)∧ ∃u:ByteArray,e= .returned (.tuple #[.string u,.int .i64 0])∧nb u=recover b (One.digits b (nb digest)) (ss.map nb)∧Below w.heap.size w w')∨
     ((∃s ∈ ss,s.size≠32)∧e= .returned (.tuple #[.string ByteArray.empty,.int .i64 1])∧Below w.heap.size w w'):=by
 have HDG:=hid (fun w=>digits_ok b digest hB hn hn2 w)
 have HDL:Hid ((One.digits b (nb digest)).length=L):=hid (by rw [digits_length hB,nb_length];exact hLC.symm)
 have HDLA:Hid (∀x ∈ One.digits b (nb digest),x≤last b):=hid (fun x hx=>by
  have h1:=digits_lt b _ x hx
  unfold last
  omega)
 have hC:L≤269:=by rw [hLC];exact count_le hB hn2
 have hC0:0<L:=by rw [hLC];exact count_pos hB
 have hM:=last_le hB
 have HLA:=hid (fun w=>last_any (b:Int) (digest.size:Int) b rfl hB w)
 have HL:=hid hL
 have HSL:=hid hLe
 have HST:=hid hS
 obtain ⟨DG,hDG⟩:=ex_eq (One.digits b (nb digest))
 rw [hDG] at HDG HDL HDLA ⊢
 have HRE:Hid (recover b DG (ss.map nb)=pubOf ((List.range DG.length).map fun i=>chain i (DG.getD i 0) (last b - DG.getD i 0) ((ss.map nb).getD i []))):=rfl
 obtain ⟨M,hMe⟩:=ex_eq (last b)
 rw [hMe] at hM HLA HDLA HRE
 clear hL hB hn hn2 hDG hMe hS hLe hLC
 go_enter Tryz.func258,Tryz.ntmps258
 go_upto_region 1 with fail
 refine wp_over (fun W=>Hid (W.heap[w.heap.size]? =some (.cells #[.int .i64 (b:Int),.int .i64 (digest.size:Int)] 139 (0,0)))∧Hid (Below w.heap.size w W)) ⟨heap_alloc_new _ _,(Below.refl _ _).alloc (Nat.le_refl _) _⟩ ?_
 rintro W ⟨HG,HB⟩
 obtain ⟨N,hN⟩:=ex_eq w.heap.size
 rw [hN] at HG HB ⊢
 have HN:=hid hN
 clear hN
 have HWN:Hid (N+1≤W.heap.size):=hid (gS HG.o).1
 have HLD:Hid (∀V,Below N w V→Laid V):=hid (fun V h=>HL.o.later h (by rw [HN.o];exact Nat.le_refl _))
 have c0:W.cell? ⟨N,0,none⟩=some (.int .i64 (b:Int)):=cr HG.o
 have c1:W.cell? ⟨N,1,none⟩=some (.int .i64 (digest.size:Int)):=cr HG.o
 go_upto_region 4 with (first
  | (with_reducible refine (HDG.o _).mono ?_
     rintro e w2 ⟨x,L2,rfl,hL,hown,h2⟩
     rw [HDL.o] at hL
     have hL3:=hL.symm
     subst hL3
     obtain ⟨a2,cp2,rfl,hl2,hc2,hI2,hnil2⟩:=own_ints hown
     have HI2:=hid hI2
     have H2:Hid (Below N w w2):=hid (HB.o.trans (h2.mono (by have:=HWN.o;omega)))
     have HG2:Hid (w2.heap[N]? =some (.cells #[.int .i64 (b:Int),.int .i64 (digest.size:Int)] 139 (0,0))):=hid ((h2.block N (by have:=HWN.o;omega)).trans HG.o)
     clear h2 hown hl2 hc2 hI2 hnil2))
 have hmk:=mk_strs L (by omega)
 clear c0 c1
 go_upto_region 5 with fail
 refine wp_over (fun W=>Hid (W.heap[w2.heap.size]? =some (.cells (strV (List.replicate L ByteArray.empty)).toArray 9 (0,0)))∧Hid (Below w2.heap.size w2 W)) ⟨heap_alloc_new _ _,(Below.refl _ _).alloc (Nat.le_refl _) _⟩ ?_
 rintro V ⟨HGV,HBV⟩
 obtain ⟨G,hGe⟩:=ex_eq w2.heap.size
 rw [hGe] at HGV HBV ⊢
 have HGE:=hid hGe
 have HNG:Hid (N+1≤G):=hid (by rw [← hGe];have:=(gS HG2.o).1;omega)
 clear hGe hmk
 obtain ⟨b',o',rfl,hcs⟩: ∃b o,a2=some ⟨b,o,none⟩∧ ∀i,i<DG.length→w2.cell? ⟨b,o+i,none⟩=some (.int .i64 ((DG.getD i 0:Nat):Int)):=by
  rcases HI2.o with h | h
  ·have:=HDL.o;rw [h] at this;simp at this;omega
  ·exact h
 obtain ⟨pb,po,rfl,hps⟩: ∃b o,a=some ⟨b,o,none⟩∧ ∀i,i<ss.length→w.cell? ⟨b,o+i,none⟩=some (.string (ss.getD i ByteArray.empty)):=by
  rcases HST.o with h | h
  ·have:=HSL.o;rw [h] at this;simp at this;omega
  ·exact h
 have HSA:Hid (∀X,Below G w2 X→X.cell? ⟨N,0,none⟩=some (.int .i64 (b:Int))∧X.cell? ⟨N,1,none⟩=some (.int .i64 (digest.size:Int))∧ ∀k,k<L→X.cell? ⟨b',o'+k,none⟩=some (.int .i64 ((DG.getD k 0:Nat):Int))):=hid (fun X h=>by
  have hg:=(h.block N (by have:=HNG.o;omega)).trans HG2.o
  refine ⟨cr hg,cr hg,fun k hk=> ?_⟩
  have hc:=hcs k (by rw [HDL.o];exact hk)
  exact (h.cell (p:=⟨b',o'+k,none⟩) (by have:=World.block_lt_of_cell? w2 _ hc;rw [HGE.o] at this;exact this)).trans hc)
 have HPS:Hid (∀X,Below N w X→ ∀k,k<L→X.cell? ⟨pb,po+k,none⟩=some (.string (ss.getD k ByteArray.empty))):=hid (fun X h k hk=>by
  have hc:=hps k (by rw [HSL.o];exact hk)
  exact (h.cell (p:=⟨pb,po+k,none⟩) (by have:=World.block_lt_of_cell? w _ hc;rw [HN.o] at this;exact this)).trans hc)
 clear hcs hps
 go_upto_region 6 with fail
 go_loopw [33] (fun y wr=> ∃(k:Nat) (vs:List ByteArray),k≤L∧y= .int .i64 (k:Int)∧vs.length=k∧Hid (∀i,i<k→(ss.getD i ByteArray.empty).size=32)∧Hid (vs.map nb=(List.range k).map fun i=>chain i (DG.getD i 0) (M - DG.getD i 0) ((ss.map nb).getD i []))∧Hid (wr.heap[G]? =some (.cells (strV (vs++List.replicate (L - k) ByteArray.empty)).toArray 9 (0,0)))∧Hid (Below G w2 wr)) (fun y _=>L - (intOf y).toNat)
 case atStart=>exact ⟨0,[],by omega,rfl,rfl,fun i h=>by omega,rfl,HGV.o,HBV.o⟩
 case round=>
  obtain ⟨k,vs,hk,rfl,hvl,H32,HVS,HROW,HBE⟩:=hrel
  have HVL:=hid hvl
  clear hvl
  have HBW:Hid (Below N w wr):=hid (H2.o.trans (HBE.o.mono (by have:=HNG.o;omega)))
  by_cases hlt:k<L
  ·have hki:(k:Int)<(L:Int):=by omega
   have hk9:k≤999:=by omega
   have hps:=HPS.o wr HBW.o k hlt
   have HGM:=hid (getD_map ss k (by rw [HSL.o];exact hlt))
   have HSM:Hid (ss.getD k ByteArray.empty ∈ ss):=hid (getD_mem ss k _ (by rw [HSL.o];exact hlt))
   obtain ⟨s,hse⟩:=ex_eq (ss.getD k ByteArray.empty)
   rw [hse] at hps HGM HSM
   have HSE:=hid hse
   clear hse
   have hdM:DG.getD k 0≤M:=HDLA.o _ (getD_mem _ _ _ (by rw [HDL.o];exact hlt))
   have HWR:Hid (G+1≤wr.heap.size):=hid (gS HROW.o).1
   go_upto_region 8 with fail
   obtain ⟨c0,c1,c2⟩:=HSA.o wr HBE.o
   have c2:=c2 k hlt
   obtain ⟨d,hd⟩:=ex_eq (DG.getD k 0)
   rw [hd] at c2 hdM
   have HD:=hid hd
   have HSB:Hid (∀X,Below G w2 X→X.cell? ⟨N,0,none⟩=some (.int .i64 (b:Int))∧X.cell? ⟨N,1,none⟩=some (.int .i64 (digest.size:Int))∧X.cell? ⟨b',o'+k,none⟩=some (.int .i64 (d:Int))):=hid (fun X h=>by
    obtain ⟨h0,h1,h2⟩:=HSA.o X h
    have h3:=h2 k hlt
    rw [hd] at h3
    exact ⟨h0,h1,h3⟩)
   clear hd hps
   refine Kit.wp_region_plan (fun X=>X.cell? ⟨N,0,none⟩=some (.int .i64 (b:Int))∧X.cell? ⟨N,1,none⟩=some (.int .i64 (digest.size:Int))∧X.cell? ⟨b',o'+k,none⟩=some (.int .i64 (d:Int)))
    [(true,0),(true,1),(true,2),(true,3),(true,4),(true,5),(true,6),(true,7),(true,9),(false,8),(false,10),(true,11),(true,12),(true,13),(true,14),(false,15),(false,16)] (by kernel_rfl) (by kernel_rfl) (by kernel_rfl) (by kernel_rfl) ⟨c0,c1,c2⟩ ?_
   repeat (refine Kit.plan_head (by rfl) (.inl ⟨by rfl,fun w' hS=>by (dsimp only at hS);go_simp;(try with_reducible rfl)⟩) ?_;simp only [Act.put,List.setIfInBounds_toArray,List.set_cons_zero,List.set_cons_succ])
   clear c0 c1 c2
   refine Kit.plan_op (by rfl) rfl fun K hK=> ?_
   go_simp
   go_at_call 174
   refine (HLA.o _).mono ?_
   rintro e w5 ⟨rfl,h5⟩
   have HBE5:Hid (Below G w2 w5):=hid (HBE.o.trans ((Below.refl _ wr).drew.trans (h5.mono (by have:=HWR.o;show G≤wr.heap.size;omega))))
   have HROW5:Hid (w5.heap[G]? =some (.cells (strV (vs++List.replicate (L - k) ByteArray.empty)).toArray 9 (0,0))):=hid ((h5.block G (by have:=HWR.o;show G<wr.heap.size;omega)).trans HROW.o)
   have HBW5:Hid (Below N w w5):=hid (H2.o.trans (HBE5.o.mono (by have:=HNG.o;omega)))
   clear h5
   refine hK _ _ (HSB.o _ HBE5.o) ?_
   clear hK K
   by_cases h32:s.size=32
   ·refine Kit.plan_op (by rfl) rfl fun K hK=> ?_
    go_simp
    go_at_call 243
    refine (chain_ok k d M hk9 hdM hM s h32 _ (HLD.o _ HBW5.o)).mono ?_
    rintro e w6 ⟨y,rfl,hy,h6⟩
    have HY:=hid hy
    have HBE6:Hid (Below G w2 w6):=hid (HBE5.o.trans (h6.mono (by have:=(gS HROW5.o).1;omega)))
    have hrow6:=(h6.block G (by have:=(gS HROW5.o).1;omega)).trans HROW5.o
    have HROW6:=hid hrow6
    have hfz:w6.frozen? ⟨G,k,none⟩=false:=frozen_of_row _ _ _ _ _ hrow6
    obtain ⟨old,hold⟩: ∃old,w6.cell? ⟨G,k,none⟩=some old:=⟨_,(cell_of_row _ _ _ _ _ _ hrow6).trans (Array.getElem?_eq_getElem (by rw [List.size_toArray,strV_length,List.length_append,HVL.o,List.length_replicate];omega))⟩
    clear hy h6 hrow6
    refine hK _ _ (HSB.o _ HBE6.o) ?_
    clear hK K
    repeat (refine Kit.plan_head (by rfl) (.inl ⟨by rfl,fun w' hS=>by (dsimp only at hS);go_simp;(try with_reducible rfl)⟩) ?_;simp only [Act.put,List.setIfInBounds_toArray,List.set_cons_zero,List.set_cons_succ])
    have HBE7:Hid (Below G w2 (w6.setCell ⟨G,k,none⟩ (.string y))):=hid (HBE6.o.setCell (p:=⟨G,k,none⟩) (Nat.le_refl _) _)
    refine Kit.plan_op (by rfl) rfl fun K hK=> ?_
    go_simp
    refine hK _ _ (HSB.o _ HBE7.o) ?_
    clear hK K
    refine Kit.plan_op (by rfl) rfl fun K hK=> ?_
    go_simp
    refine hK _ _ (HSB.o _ HBE7.o) (Kit.plan_done ?_)
    clear hK K
    (try simp only [Act.put,List.setIfInBounds_toArray,List.set_cons_zero,List.set_cons_succ])
    go_wp2_with fail
    go_roundw
    case rel=>
     refine ⟨k+1,vs++[y],hlt,by go_num,by rw [List.length_append,HVL.o];rfl,?_,?_,?_,HBE7.o⟩
     ·intro i hi
      by_cases e:i=k
      ·rw [e,HSE.o];exact h32
      ·exact H32.o i (by omega)
     ·show _=_
      rw [List.map_append,HVS.o,range_snoc]
      simp only [List.map_cons,List.map_nil,HY.o,HD.o,HGM.o]
     ·show _=_
      rw [heap_setCell_same _ _ _ _ _ _ HROW6.o,strV_set,set_next y HVL.o hlt]
    case measure=>simp [intOf];omega
   ·refine Kit.plan_op (by rfl) rfl fun K hK=> ?_
    go_simp
    go_at_call 243
    refine (chain_bad (k:Int) (d:Int) (M:Int) s (fun h=>h32 h.2.2.2.2.2) w5).mono ?_
    rintro e w6 ⟨rfl,rfl⟩
    have hrow6:=HROW5.o
    have hfz:w5.frozen? ⟨G,k,none⟩=false:=frozen_of_row _ _ _ _ _ hrow6
    obtain ⟨old,hold⟩: ∃old,w5.cell? ⟨G,k,none⟩=some old:=⟨_,(cell_of_row _ _ _ _ _ _ hrow6).trans (Array.getElem?_eq_getElem (by rw [List.size_toArray,strV_length,List.length_append,HVL.o,List.length_replicate];omega))⟩
    clear hrow6
    refine hK _ _ (HSB.o _ HBE5.o) ?_
    clear hK K
    repeat (refine Kit.plan_head (by rfl) (.inl ⟨by rfl,fun w' hS=>by (dsimp only at hS);go_simp;(try with_reducible rfl)⟩) ?_;simp only [Act.put,List.setIfInBounds_toArray,List.set_cons_zero,List.set_cons_succ])
    have HBE7:Hid (Below G w2 (w5.setCell ⟨G,k,none⟩ (.string ByteArray.empty))):=hid (HBE5.o.setCell (p:=⟨G,k,none⟩) (Nat.le_refl _) _)
    refine Kit.plan_op (by rfl) rfl fun K hK=> ?_
    go_simp
    refine hK _ _ (HSB.o _ HBE7.o) ?_
    clear hK K
    refine Kit.plan_op (by rfl) rfl fun K hK=> ?_
    go_simp
    refine hK _ _ (HSB.o _ HBE7.o) (Kit.plan_done ?_)
    clear hK K
    (try simp only [Act.put,List.setIfInBounds_toArray,List.set_cons_zero,List.set_cons_succ])
    go_wp2_with fail
    go_ret2
    exact .inr ⟨⟨s,HSM.o,h32⟩,rfl,by rw [HN.o];exact H2.o.trans (HBE7.o.mono (by have:=HNG.o;omega))⟩
  ·have hke:k=L:=by omega
   subst hke
   have HROWE:Hid (wr.heap[G]? =some (.cells (strV vs).toArray 9 (0,0))):=hid (by have h:=HROW.o;rw [Nat.sub_self,List.replicate_zero,List.append_nil] at h;exact h)
   have H32E:Hid (∀s ∈ ss,s.size=32):=hid (fun s hs=>by
    obtain ⟨i,hi,rfl⟩:=List.getElem_of_mem hs
    have h:=H32.o i (by rw [← HSL.o];exact hi)
    rwa [lD,lE hi] at h)
   have HV32:Hid (∀s ∈ vs,s.size=32):=hid (fun s hs=>by
    have h1:nb s ∈ vs.map nb:=List.mem_map.2 ⟨s,hs,rfl⟩
    rw [HVS.o] at h1
    obtain ⟨i,hi,he⟩:=List.mem_map.1 h1
    have hi2:=List.mem_range.1 hi
    rw [← nb_length,← he]
    refine chain_length _ _ _ _ ?_
    rw [getD_map ss i (by rw [HSL.o];exact hi2),nb_length]
    exact H32.o i hi2)
   go_wp2_with (first
    | (with_reducible refine (publicKey_any (some ⟨G,0,none⟩) k vs k HVL.o (by rw [HVL.o];exact hC0) (by rw [HVL.o];omega) (by rw [HVL.o];exact Nat.le_refl _) HV32.o _ (strs_of_row HROWE.o) (HLD.o _ HBW.o)).mono ?_
       rintro e w6 ⟨u,rfl,hu,h6⟩
       have HU:=hid hu
       have H6:Hid (Below N w w6):=hid (HBW.o.trans (h6.mono (by have:=(gS HROWE.o).1;have:=HNG.o;omega)))
       clear hu h6))
   go_ret2
   exact .inl ⟨H32E.o,u,rfl,by rw [HU.o,HVS.o,HRE.o,HDL.o],by rw [HN.o];exact H6.o⟩
theorem recover_bad (B S:Int) (digest:ByteArray) (a:Option Addr) (cap L:Nat) (hL:L<9223372036854775808) (hb: ¬(VP B S∧(digest.size:Int)=S∧L=count B.toNat digest.size)) (w:World):
    Calls Tryz.prog 258 #[.agg #[.int .i64 B,.int .i64 S],.string digest,.slice a L cap] w fun e w'=>e= .returned (.tuple #[.string ByteArray.empty,.int .i64 1])∧Below w.heap.size w w':=by
 by_cases hP:VP B S∧(digest.size:Int)=S
 ·obtain ⟨hV,rfl⟩:=hP
  obtain ⟨b,hbn⟩: ∃b:Nat,B=(b:Int):=⟨B.toNat,by have:=hV.1;omega⟩
  subst hbn
  have hB:Bits b:=by
   have:=hV.1
   unfold Bits
   omega
  have HDG:=hid (fun w=>digits_ok b digest hB (by have:=hV.2.1;omega) (by have:=hV.2.2;omega) w)
  have hne:L≠count b digest.size:=fun e=>hb ⟨hV,rfl,e⟩
  have HDL:Hid ((One.digits b (nb digest)).length=count b digest.size):=hid (by rw [digits_length hB,nb_length])
  obtain ⟨C,hC⟩:=ex_eq (count b digest.size)
  rw [hC] at hne HDL
  have hni:((L:Int) != (C:Int))=true:=by rw [bne_iff_ne];omega
  clear hb hV hB hC
  go_enter Tryz.func258,Tryz.ntmps258
  go_wp2_with (first
   | (with_reducible refine (HDG.o _).mono ?_
      rintro e w2 ⟨x,L2,rfl,hL2,hown,h2⟩
      rw [HDL.o] at hL2
      have hL3:=hL2.symm
      subst hL3
      obtain ⟨a2,cp2,rfl,hl2,hc2,hI2,hnil2⟩:=own_ints hown
      have H2:Hid (Below w.heap.size w w2):=hid (((Below.refl _ w).alloc (Nat.le_refl _) _).trans (h2.mono (by simp)))
      clear h2 hown hl2 hc2 hI2 hnil2))
  go_ret2
  exact ⟨rfl,H2.o⟩
 ·have HDG:=hid (fun w=>digits_bad B S digest hP w)
  clear hb hP
  go_enter Tryz.func258,Tryz.ntmps258
  go_wp2_with (first
   | (with_reducible refine (HDG.o _).mono ?_
      rintro e w2 ⟨rfl,h2⟩
      have H2:Hid (Below w.heap.size w w2):=hid (((Below.refl _ w).alloc (Nat.le_refl _) _).trans (h2.mono (by simp)))
      clear h2))
  go_ret2
  exact ⟨rfl,H2.o⟩
theorem recover_ok (b:Nat) (digest:ByteArray) (hB:Bits b) (hn:0<digest.size) (hn2:digest.size≤32) (a:Option Addr) (cap L:Nat) (ss:List ByteArray) (hLe:ss.length=L) (hLC:L=count b digest.size) (h32: ∀s ∈ ss,s.size=32) (w:World) (hS:StrsAt w a ss) (hL:Laid w):
    Calls Tryz.prog 258 #[.agg #[.int .i64 (b:Int),.int .i64 (digest.size:Int)],.string digest,.slice a L cap] w fun e w'=> ∃u:ByteArray,e= .returned (.tuple #[.string u,.int .i64 0])∧nb u=recover b (One.digits b (nb digest)) (ss.map nb)∧Below w.heap.size w w':=by
 refine (recover_run b digest hB hn hn2 a cap L ss hLe hLC w hS hL).mono ?_
 rintro e w' (⟨_,h⟩ | ⟨⟨s,hs,hne⟩,_⟩)
 ·exact h
 ·exact absurd (h32 s hs) hne
theorem recover_part (b:Nat) (digest:ByteArray) (hB:Bits b) (hn:0<digest.size) (hn2:digest.size≤32) (a:Option Addr) (cap L:Nat) (ss:List ByteArray) (hLe:ss.length=L) (hLC:L=count b digest.size) (h32: ¬ ∀s ∈ ss,s.size=32) (w:World) (hS:StrsAt w a ss) (hL:Laid w):
    Calls Tryz.prog 258 #[.agg #[.int .i64 (b:Int),.int .i64 (digest.size:Int)],.string digest,.slice a L cap] w fun e w'=>e= .returned (.tuple #[.string ByteArray.empty,.int .i64 1])∧Below w.heap.size w w':=by
 refine (recover_run b digest hB hn hn2 a cap L ss hLe hLC w hS hL).mono ?_
 rintro e w' (⟨h,_⟩ | ⟨_,h⟩)
 ·exact absurd h h32
 ·exact h
theorem and_one (x:Nat) (hx:x<256):bits .and .i64 (x:Int) 1=((x % 2:Nat):Int):=and_last x 1 (by omega) (by decide)
end Go.Proofs.YtndlihclgdkpaaaGreatDoor
namespace Go.Proofs.YtndlihclgdkpaaaGreatDoor
namespace Kit
section
variable {P:Program} {md:Region.Mode} {Q:Exit→Act→World→Prop} {S:World→Prop}
def gplan (P:Program) (Q:Exit→Act→World→Prop) (S:World→Prop) (l:List Oper):List (Bool × Nat)→Act→World→Prop
 | [],a,w=>Q .normal a w
 | (true,i)::rest,a,w=> ∃o,l[i]? =some o∧ ∃v,YieldsIf P l.toArray S o v a∧gplan P Q S l rest (a.put o.dst v) w
 | (false,i)::rest,a,w=> ∃o,l[i]? =some o∧Region.wanted o (yielded l.toArray a.tmps)=true∧ ∀K:Act→World→Prop,(∀a w,S w→gplan P Q S l rest a w→K a w)→o.wp P a w K Q
def gplanOk (md:Region.Mode) (ops:Array Oper):List (Bool × Nat)→Array Bool→Bool
 | [],listed=>(Region.ready md ops listed).isEmpty
 | (true,i)::rest,listed=>Region.free md ops listed i && (Region.ready md ops listed).contains i && gplanOk md ops rest (listed.setIfInBounds i true)
 | (false,i)::rest,listed=>decide (Region.ready md ops listed=[i]) && gplanOk md ops rest (listed.setIfInBounds i true)
theorem any_of_gplan {l:List Oper} (hsel:Region.noSelect l.toArray=true) (hQ: ∀c a d v w,Q (.panic c) (a.put d v) w→Q (.panic c) a w):
    ∀(ps:List (Bool × Nat)) (listed:Array Bool) (a:Act) (w:World),S w→gplanOk md l.toArray ps listed=true→gplan P Q S l ps a w→wpAnyH P md l.toArray Q S ps.length listed a w
 | [],listed,a,w,_,hB,h=>by
   simp only [gplanOk,List.isEmpty_iff] at hB
   exact wpAnyH_done hB h 0
 | (true,i)::rest,listed,a,w,hS,hB,h=>by
   simp only [gplanOk,Bool.and_eq_true] at hB
   obtain ⟨o,ho,v,hy,hr⟩:=h
   exact wpAnyH_take (by simpa using ho) hsel hB.1.1 hB.1.2 (fun c a w=>hQ c a _ v w) hy hS (any_of_gplan hsel hQ rest _ _ _ hS hB.2 hr)
 | (false,i)::rest,listed,a,w,hS,hB,h=>by
   simp only [gplanOk,Bool.and_eq_true,decide_eq_true_eq] at hB
   obtain ⟨o,ho,hg,hw⟩:=h
   refine wpAnyH_all hB.1 (by simp) ?_
   intro j hj
   have hji:j=i:=by simpa using hj
   subst hji
   have ho':l.toArray[j]? =some o:=by simpa using ho
   unfold wpOp
   rw [ho']
   show if Region.wanted o (yielded l.toArray a.tmps)=true then _ else _
   rw [if_pos hg]
   exact .inl (hw _ fun a w hS hc=>⟨hS,any_of_gplan hsel hQ rest _ a w hS hB.2 hc⟩)
theorem wp_region_gplan {id:Nat} {a:Act} {w:World} {l:List Oper} (S:World→Prop) (ps:List (Bool × Nat)) (hm:P.follows .mixedOrders=true) (hsel:Region.noSelect l.toArray=true) (hn:l.length=ps.length)
    (hB:gplanOk .any l.toArray ps (Array.replicate l.length false)=true) (hS:S w.drew)
    (h:gplan P (NoPanic Q) S l ps a w.drew):(Code.region id l.toArray true).wp P Q a w:=by
 refine wp_region_noPanic (wp_region_held (S:=S) hm ?_)
 have H:=any_of_gplan hsel (fun _ _ _ _ _ h=>h) ps _ _ _ hS hB h
 rw [← hn] at H
 have e:l.toArray.size=l.length:=List.size_toArray
 rw [e]
 exact H
theorem gplan_done {l:List Oper} {a:Act} {w:World} (h:Q .normal a w):gplan P (NoPanic Q) S l [] a w:=h
theorem gplan_head {l:List Oper} {a:Act} {w:World} {i:Nat} {rest:List (Bool × Nat)} {o:Oper} {v:Value} (ho:l[i]? =some o) (hy:YieldsIf P l.toArray S o v a) (h:gplan P Q S l rest (a.put o.dst v) w):gplan P Q S l ((true,i)::rest) a w:=⟨o,ho,v,hy,h⟩
theorem ghd {l:List Oper} {a a':Act} {w:World} {i:Nat} {rest:List (Bool × Nat)} {o:Oper} {v:Value} (ho:l[i]? =some o:=by rfl) (hy:YieldsIf P l.toArray S o v a:=by first | exact .inr ⟨by rfl,rfl⟩ | exact .inl ⟨by rfl,fun w' hS=>by (dsimp only at hS);go_simp;(try with_reducible rfl)⟩) (ha:a.put o.dst v=a':=by (try simp only [Act.put,List.setIfInBounds_toArray,List.set_cons_zero,List.set_cons_succ]);rfl) (h:gplan P Q S l rest a' w):gplan P Q S l ((true,i)::rest) a w:=by subst ha;exact gplan_head ho hy h
theorem gdn {l:List Oper} {a a':Act} {w:World} (ha:a=a':=by (try simp only [Act.put,List.setIfInBounds_toArray,List.set_cons_zero,List.set_cons_succ]);rfl) (h:Q .normal a' w):gplan P (NoPanic Q) S l [] a w:=by subst ha;exact gplan_done h
theorem gplan_op {l:List Oper} {a:Act} {w:World} {i:Nat} {rest:List (Bool × Nat)} {o:Oper} (ho:l[i]? =some o) (hg:Region.wanted o (yielded l.toArray a.tmps)=true) (h: ∀K:Act→World→Prop,(∀a w,S w→gplan P Q S l rest a w→K a w)→o.wp P a w K Q):gplan P Q S l ((false,i)::rest) a w:=⟨o,ho,hg,h⟩
end
end Kit
end Go.Proofs.YtndlihclgdkpaaaGreatDoor
namespace Go.Proofs.YtndlihclgdkpaaaGreatDoor
open Go.RowKit
open Kit (Chg)
open Go.Proofs.YtndlihclgdkpaaaGreatDoor.One
section
variable {ops:Array Oper} {rest:List Oper} {o:Oper} {a:Act} {Q:Exit→Act→World→Prop}
theorem app_bytes {w0:World} (hgd:o.guard=none) (s x:Operand) (ho:o.op= .call { callee:= .builtin .append,args:= #[s,x],argTypes:= #[52, 52] })
    (base:Nat) (v:Value) (L:Nat) (cur:List Nat) (hs:a.eval s=v) (hown:w0.ownsRow base 5 1 v L (bvals cur)) (hb:base≤w0.heap.size) (hL:L≤1000000000000)
    (ao:Option Addr) (m c:Nat) (xs:List Nat) (hm:xs.length=m) (hm2:m≤1000000000000) (hx:a.eval x= .slice ao m c) (hB:BytesAt w0 ao xs) (hnil:ao=none→c=0)
    (h: ∀v' w',w'.ownsRow base 5 1 v' (L+m) (bvals (cur++xs))→Below base w0 w'→wpList Tryz.prog ops Q rest (a.put o.dst v') w'):wpList Tryz.prog ops Q (o::rest) a w0:=by
 obtain ⟨i0,hi,hz0,hz1,hz2⟩:=info_parts Tryz.info5
 subst hm
 refine wpList_append_src hgd s x 52 ho base 5 i0 (.int .u8 0) 1 1 Tryz.underlying52 hi hz0 hz1 hz2 rfl (by decide) v L (bvals cur) hs hown ao xs.length c (bvals xs) hx (hB.src c hnil) (bvals_one _) (by unfold maxLen;omega) (by omega) hb ?_
 intro v' w4 hown4 hgr4
 refine h v' w4 (by rw [bvals_append];exact hown4) ?_
 exact (Chg.of_grown hgr4 (fun q _ e=>(hown.lt q e).1):Chg (fun q _=>base≤q) w0 w4).below hb (fun q i hq h=>by omega)
theorem app_str {w0:World} (hgd:o.guard=none) (s x:Operand) (ho:o.op= .call { callee:= .builtin .append,args:= #[s,x],argTypes:= #[43, 43] })
    (base:Nat) (v:Value) (L:Nat) (cur:List ByteArray) (hs:a.eval s=v) (hown:w0.ownsRow base 9 1 v L (strV cur)) (hb:base≤w0.heap.size) (hL:L≤1000000000000)
    (b:ByteArray) (c:Nat) (hx:a.eval x= .slice (some ⟨w0.heap.size,0,none⟩) 1 c)
    (h: ∀v' w',w'.ownsRow base 9 1 v' (L+1) (strV (cur++[b]))→Below base w0 w'→wpList Tryz.prog ops Q rest (a.put o.dst v') w'):wpList Tryz.prog ops Q (o::rest) a (w0.alloc (.cells #[.string b] 9)):=by
 obtain ⟨i0,hi,hz0,hz1,hz2⟩:=info_parts Tryz.info9
 refine wpList_append_own _ hgd s x 43 ho base 9 i0 (.string ByteArray.empty) 1 16 Tryz.underlying43 hi hz0 hz1 hz2 rfl (by decide) v L (strV cur) hs (hown.alloc _) ⟨w0.heap.size,0,none⟩ 1 c [.string b] hx rfl (cell_one_new _ _ _) (by simp [Value.oneCell']) (by unfold maxLen;omega) (by omega) (by simp;omega) ?_
 intro v' w4 hown4 hgr4 _
 refine h v' w4 (by rw [strV_app];exact hown4) ?_
 exact ((Chg.alloc1 w0 _).trans (Chg.of_grown hgr4 (fun q _ e=>(hown.lt q e).1)):Chg (fun q _=>base≤q) w0 w4).below hb (fun q i hq h=>by omega)
end
theorem own_later {w w':World} {base e size n:Nat} {v:Value} {xs:List Value} (h:w.ownsRow base e size v n xs) (hb:Below w.heap.size w w'):w'.ownsRow base e size v n xs:=ownsRow_keep h (Chg.of_below (M:=fun _ _=>False) hb) (fun _ _ _ h=>h)
end Go.Proofs.YtndlihclgdkpaaaGreatDoor
