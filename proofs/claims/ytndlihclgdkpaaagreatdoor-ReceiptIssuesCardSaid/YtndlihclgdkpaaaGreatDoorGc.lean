/- Texts Pub, Sgn, Rec, Ver, RefD, Plg, App, Spl, merged. -/
import Derived.Great.BuildSlice
import Derived.Test.YtndlihclgdkpaaaGreatDoorGb
/- onetime: chainOf, publicKey, Public. -/
set_option linter.unusedVariables false
set_option linter.unusedSimpArgs false
open Go.Lib (hid)
set_option maxHeartbeats 4000000
set_option maxRecDepth 100000
namespace Go.Proofs.YtndlihclgdkpaaaGreatDoor
open Go.RowKit
open Kit (Chg)
open Sha (v)
open Go.Proofs.YtndlihclgdkpaaaGreatDoor.One

theorem chain_bad (i j m:Int) (x:ByteArray) (hb: ¬(0≤i∧i≤999∧0≤j∧j≤m∧m≤255∧x.size=32)) (w:World):
    Calls Tryz.prog 243 #[.int .i64 i,.int .i64 j,.int .i64 m,.string x] w fun e w'=>e= .returned (.tuple #[.string ByteArray.empty,.int .i64 1])∧w=w':=by
 by_cases h1:0≤i∧i≤999
 ·have HC:Hid (decide (0≤i∧i≤999)=true):=hid (decide_eq_true h1)
  by_cases h2:0≤j
  ·by_cases h3:j≤m
   ·by_cases h4:m≤255
    ·have HS:Hid (decide (x.size=32)=false):=hid (decide_eq_false (fun h=>hb ⟨h1.1,h1.2,h2,h3,h4,h⟩))
     clear hb h1
     go_enter Tryz.func243,Tryz.ntmps243
     go_wp2_with (first
      | (with_reducible refine (isSum_any x _).mono ?_;rintro e w2 ⟨rfl,rfl⟩;rw [HS.o])
      | (with_reducible refine (validChain_any i _).mono ?_;rintro e w2 ⟨rfl,rfl⟩;rw [HC.o]))
     go_ret2
     exact ⟨rfl,rfl⟩
    ·clear hb h1
     go_enter Tryz.func243,Tryz.ntmps243
     go_wp2_with (first
      | (with_reducible refine (validChain_any i _).mono ?_;rintro e w2 ⟨rfl,rfl⟩;rw [HC.o]))
     go_ret2
     exact ⟨rfl,rfl⟩
   ·clear hb h1
    go_enter Tryz.func243,Tryz.ntmps243
    go_wp2_with (first
     | (with_reducible refine (validChain_any i _).mono ?_;rintro e w2 ⟨rfl,rfl⟩;rw [HC.o]))
    go_ret2
    exact ⟨rfl,rfl⟩
  ·clear hb h1
   go_enter Tryz.func243,Tryz.ntmps243
   go_wp2_with (first
    | (with_reducible refine (validChain_any i _).mono ?_;rintro e w2 ⟨rfl,rfl⟩;rw [HC.o]))
   go_ret2
   exact ⟨rfl,rfl⟩
 ·have HC:Hid (decide (0≤i∧i≤999)=false):=hid (decide_eq_false h1)
  clear hb h1
  go_enter Tryz.func243,Tryz.ntmps243
  go_wp2_with (first
   | (with_reducible refine (validChain_any i _).mono ?_;rintro e w2 ⟨rfl,rfl⟩;rw [HC.o]))
  go_ret2
  exact ⟨rfl,rfl⟩
theorem chainOf_ok (seed:ByteArray) (hs:seed.size=32) (c:Nat) (hc:c≤999) (w:World) (hL:Laid w):
    Calls Tryz.prog 173 #[.string seed,.int .i64 (c:Int)] w fun e w'=> ∃(b1 b2:Nat) (u:ByteArray),e= .returned (.func (.func 242) #[] #[.pointer (some ⟨b1,0,none⟩),.pointer (some ⟨b2,0,none⟩)])∧w'.cell? ⟨b1,0,none⟩=some (.int .i64 (c:Int))∧w'.cell? ⟨b2,0,none⟩=some (.string u)∧nb u=secret (nb seed) c∧Below w.heap.size w w':=by
 have HL:=hid hL
 have HS:=hid hs
 have HC:=hid hc
 clear hL hs hc
 go_enter Tryz.func173,Tryz.ntmps173
 go_upto_region 1 with fail
 refine wp_over (fun W=>Hid (W.heap[w.heap.size]? =some (.cells #[.int .i64 (c:Int)] 3 (0,0)))∧Hid (Below w.heap.size w W)) ⟨heap_alloc_new _ _,(Below.refl _ _).alloc (Nat.le_refl _) _⟩ ?_
 rintro W ⟨HG,HB⟩
 obtain ⟨N,hN⟩:=ex_eq w.heap.size
 rw [hN] at HG HB ⊢
 have HN:=hid hN
 clear hN
 have c0:W.cell? ⟨N,0,none⟩=some (.int .i64 (c:Int)):=cr HG.o
 have HLW:Hid (Laid W):=hid (HL.o.later HB.o (by rw [HN.o];exact Nat.le_refl _))
 go_upto_region 2 with (first
  | (with_reducible refine (secret_ok seed HS.o c HC.o _ HLW.o).mono ?_
     rintro e w2 ⟨u,rfl,hu,h2⟩
     have HU:=hid hu
     have H2:=hid h2
     have d0:w2.cell? ⟨N,0,none⟩=some (.int .i64 (c:Int)):=(h2.cell (World.block_lt_of_cell? W _ c0)).trans c0
     clear hu h2 c0))
 have HNW:Hid (N<W.heap.size):=hid (gS HG.o).1
 have HF:Hid ((w2.alloc (.cells #[.string u] 9)).cell? ⟨N,0,none⟩=some (.int .i64 (c:Int))∧(w2.alloc (.cells #[.string u] 9)).cell? ⟨w2.heap.size,0,none⟩=some (.string u)∧Below N w (w2.alloc (.cells #[.string u] 9))):=hid ⟨((Below.refl _ w2).alloc (Nat.le_refl _) _).cell (World.block_lt_of_cell? w2 _ d0) |>.trans d0,(cell_of_row _ _ _ _ _ _ (heap_alloc_new _ _)).trans rfl,(HB.o.trans (H2.o.mono (Nat.le_of_lt HNW.o))).alloc (by have:=HNW.o;have:=H2.o.size;omega) _⟩
 go_wp2_with fail
 go_ret
 exact ⟨N,w2.heap.size,u,rfl,HF.o.1,HF.o.2.1,HU.o,by rw [HN.o];exact HF.o.2.2⟩
theorem at_ok (b1 b2:Nat) (c m:Nat) (hc:c≤999) (hm:m≤255) (u:ByteArray) (hu:u.size=32) (w:World) (h1:w.cell? ⟨b1,0,none⟩=some (.int .i64 (c:Int))) (h2:w.cell? ⟨b2,0,none⟩=some (.string u)) (hL:Laid w):
    Calls Tryz.prog 242 #[.int .i64 (m:Int),.pointer (some ⟨b1,0,none⟩),.pointer (some ⟨b2,0,none⟩)] w fun e w'=> ∃y:ByteArray,e= .returned (.string y)∧nb y=chain c 0 m (nb u)∧Below w.heap.size w w':=by
 have HL:=hid hL
 have HCH:=hid (fun w hL=>chain_ok c 0 m hc (Nat.zero_le _) hm u hu w hL)
 rw [show (((0:Nat)):Int)=0 from rfl,Nat.sub_zero] at HCH
 clear hL hc hm
 go_enter Tryz.func242,Tryz.ntmps242
 go_wp2_with (first
  | (with_reducible refine (HCH.o _ HL.o).mono ?_
     rintro e w2 ⟨y,rfl,hy,h2⟩
     have HY:=hid hy
     have H2:=hid h2
     clear hy h2))
 go_ret
 exact ⟨y,rfl,HY.o,H2.o⟩
theorem pub_lit:nb { data:= #[112,117,98,108,105,99] }=publicB:=rfl
theorem publicKey_any (a:Option Addr) (cap:Nat) (vs:List ByteArray) (L:Nat) (hLe:vs.length=L) (h0:0<vs.length) (hN:vs.length≤1000) (hcap:vs.length≤cap) (h32: ∀s ∈ vs,s.size=32) (w:World) (hS:StrsAt w a vs) (hL:Laid w):
    Calls Tryz.prog 175 #[.slice a L cap] w fun e w'=> ∃u:ByteArray,e= .returned (.string u)∧nb u=pubOf (vs.map nb)∧Below w.heap.size w w':=by
 obtain ⟨b,o,rfl,hcs⟩: ∃b o,a=some ⟨b,o,none⟩∧ ∀i,i<vs.length→w.cell? ⟨b,o+i,none⟩=some (.string (vs.getD i ByteArray.empty)):=by
  rcases hS with h | h
  ·subst h;simp at h0
  ·exact h
 have hcl:(catB vs).length=32*vs.length:=by
  clear hcs hS hcap h0 hN hLe
  induction vs with
  | nil=>rfl
  | cons v vs ih=>
    unfold catB at ih ⊢
    rw [List.flatMap_cons,List.length_append,ih (fun s hs=>h32 s (List.mem_cons_of_mem _ hs)),nb_length,h32 v (List.mem_cons_self ..),List.length_cons]
    omega
 have HL:=hid hL
 have HCS:=hid hcs
 have HLE:=hid hLe
 have H0:=hid h0
 have HN:=hid hN
 have HCAP:=hid hcap
 have HCL:=hid hcl
 have HPUB:Hid (Sha.sum (publicB++catB vs)=pubOf (vs.map nb)):=hid (by unfold pubOf catB;rw [List.flatMap_def])
 clear hL hcs hLe h0 hN hcap hcl h32 hS
 go_enter Tryz.func175,Tryz.ntmps175
 go_wp2_with (first
  | (with_reducible refine (glue_l b o cap vs L HLE.o H0.o (by have:=HN.o;omega) HCAP.o (by rw [HCL.o];have:=HN.o;omega) _ HCS.o (catB vs) rfl).mono ?_
     rintro e w2 ⟨g,rfl,hg,h2⟩
     have HG:=hid hg
     have H2:=hid h2
     clear hg h2
     have HST:Hid (∀W,W=w2.alloc (.cells #[.string { data:= #[112,117,98,108,105,99] },.string g] 9)→StrsAt W (some ⟨w2.heap.size,0,none⟩) [{ data:= #[112,117,98,108,105,99] },g]∧Below w.heap.size w W):=hid (fun W e=>by
      subst e
      exact ⟨strs_of_row (ss:=[{ data:= #[112,117,98,108,105,99] },g]) (heap_alloc_new _ _),H2.o.alloc H2.o.size _⟩)
     have HT:Hid (catB [{ data:= #[112,117,98,108,105,99] },g]=publicB++catB vs):=hid (by
      unfold catB at*
      rw [List.flatMap_cons,List.flatMap_cons,List.flatMap_nil,List.append_nil,HG.o,pub_lit]))
  | (with_reducible refine (join_l (some ⟨w2.heap.size,0,none⟩) 2 [{ data:= #[112,117,98,108,105,99] },g] 2 rfl (by rw [HT.o,List.length_append,HCL.o,show publicB.length=6 from rfl];have:=HN.o;omega) (by simp) _ (HST.o _ rfl).1 (HL.o.later (HST.o _ rfl).2 (Nat.le_refl _)) (publicB++catB vs) HT.o).mono ?_
     rintro e w3 ⟨u,rfl,hu,h3⟩
     have HU:=hid hu
     have H3:Hid (Below w.heap.size w w3):=hid ((HST.o _ rfl).2.trans (h3.mono (HST.o _ rfl).2.size))
     clear hu h3))
 go_ret
 exact ⟨u,rfl,by rw [HU.o];exact HPUB.o,H3.o⟩
theorem count_le {b n:Nat} (hB:Bits b) (hn2:n≤32):count b n≤269:=by
 have h:=cnt_le hB (great_le hB hn2)
 unfold count
 rcases hB with rfl | rfl | rfl | rfl<;> omega
theorem count_pos {b n:Nat} (hB:Bits b):0<count b n:=by unfold count cnt;exact Nat.add_pos_right _ (Nat.succ_pos _)
theorem vp_of {b n:Nat} (hB:Bits b) (hn:0<n) (hn2:n≤32):VP (b:Int) (n:Int):=⟨by rcases hB with rfl | rfl | rfl | rfl<;> simp,by omega,by omega⟩
theorem last_le {b:Nat} (hB:Bits b):last b≤255:=by rcases hB with rfl | rfl | rfl | rfl<;> decide
theorem range_snoc {α:Type} (f:Nat→α) (k:Nat):(List.range (k+1)).map f=(List.range k).map f++[f k]:=by rw [List.range_succ,List.map_append];rfl
theorem public_ok (b n:Nat) (hB:Bits b) (hn:0<n) (hn2:n≤32) (seed:ByteArray) (hs:seed.size=32) (w:World) (hL:Laid w):
    Calls Tryz.prog 81 #[.agg #[.int .i64 (b:Int),.int .i64 (n:Int)],.string seed] w fun e w'=> ∃u:ByteArray,e= .returned (.tuple #[.string u,.int .i64 0])∧nb u=pub b (nb seed) (count b n)∧Below w.heap.size w w':=by
 have HV:Hid (decide (VP (b:Int) (n:Int))=true):=hid (decide_eq_true (vp_of hB hn hn2))
 have HS:Hid (decide (seed.size=32)=true):=hid (decide_eq_true hs)
 have HSS:=hid hs
 have HCH:=hid (fun w=>chains_ok b n hB hn hn2 w)
 have HLA:=hid (fun w=>last_any (b:Int) (n:Int) b rfl hB w)
 have hC:=count_le hB hn2
 have hC0:=count_pos (n:=n) hB
 have hLL:=last_le hB
 have HL:=hid hL
 have HPU:Hid (pub b (nb seed) (count b n)=pubOf ((List.range (count b n)).map fun i=>chain i 0 (last b) (secret (nb seed) i))):=rfl
 obtain ⟨C,hCe⟩:=ex_eq (count b n)
 obtain ⟨L,hLe⟩:=ex_eq (last b)
 rw [hLe] at hLL HLA HPU
 rw [hCe] at hC hC0 HPU ⊢
 have HCE:=hid hCe
 clear hL hs hB hn hn2 hCe hLe
 obtain ⟨i0,hi0,hz0,hz1,hz2⟩:=info_parts Tryz.info9
 have FI:=hid hi0
 have FZ0:=hid hz0
 have FZ1:=hid hz1
 have FZ2:=hid hz2
 clear hi0 hz0 hz1 hz2
 go_enter Tryz.func81,Tryz.ntmps81
 go_upto_region 1 with fail
 refine wp_over (fun W=>Hid (W.heap[w.heap.size]? =some (.cells #[.int .i64 (b:Int),.int .i64 (n:Int)] 139 (0,0)))∧Hid (Below w.heap.size w W)) ⟨heap_alloc_new _ _,(Below.refl _ _).alloc (Nat.le_refl _) _⟩ ?_
 rintro W ⟨HG,HB⟩
 obtain ⟨N,hN⟩:=ex_eq w.heap.size
 rw [hN] at HG HB ⊢
 have HN:=hid hN
 clear hN
 have HWN:Hid (N+1≤W.heap.size):=hid (gS HG.o).1
 have HCEL:Hid (∀V,Below (N+1) W V→V.cell? ⟨N,0,none⟩=some (.int .i64 (b:Int))∧V.cell? ⟨N,1,none⟩=some (.int .i64 (n:Int))):=hid (fun V h=>by
  have hg:=(h.block N (Nat.lt_succ_self N)).trans HG.o
  exact ⟨cr hg,cr hg⟩)
 have HLD:Hid (∀V,Below (N+1) W V→Laid V):=hid (fun V h=>HL.o.later (HB.o.trans (h.mono (Nat.le_succ N))) (by rw [HN.o];exact Nat.le_refl _))
 obtain ⟨c0,c1⟩:=HCEL.o W (Below.refl _ _)
 go_upto_region 3 with (first
  | (with_reducible refine (valid_any (b:Int) (n:Int) _).mono ?_
     rintro e w2 ⟨rfl,h2⟩
     rw [HV.o]
     have H2:=hid (h2.mono HWN.o)
     clear h2 c0 c1
     obtain ⟨c0,c1⟩:=HCEL.o w2 H2.o)
  | (with_reducible refine (isSum_any seed _).mono ?_;rintro e w3 ⟨rfl,rfl⟩;rw [HS.o]))
 go_upto_region 5 with (first
  | (with_reducible refine (HCH.o _).mono ?_
     rintro e w4 ⟨m,rfl,hm,h4⟩
     rw [HCE.o] at hm
     have hm2:=hm.symm
     subst hm2
     have H4:=hid (H2.o.trans (h4.mono (by have:=H2.o.size;have:=HWN.o;omega)))
     clear h4 c0 c1))
 go_loopw [6,19] (fun x y wr=> ∃(k:Nat) (vs:List ByteArray),k≤C∧y= .int .i64 (k:Int)∧vs.length=k∧Hid (vs.map nb=(List.range k).map fun i=>chain i 0 L (secret (nb seed) i))∧Hid (wr.ownsRow (N+1) 9 1 x k (strV vs))∧Hid (Below (N+1) W wr)) (fun _ y _=>C - (intOf y).toNat)
 case atStart=>exact ⟨0,[],by omega,rfl,rfl,rfl,⟨rfl,.inl ⟨rfl,rfl⟩⟩,H4.o⟩
 case round=>
  obtain ⟨k,vs,hk,rfl,hvl,HVS,HOW,HBE⟩:=hrel
  have HVL:=hid hvl
  clear hvl
  by_cases hlt:k<C
  ·have hki:(k:Int)<(C:Int):=by omega
   have hk9:k≤999:=by omega
   go_upto_region 8 with (first
    | (with_reducible refine (chainOf_ok seed HSS.o k hk9 _ (HLD.o _ HBE.o)).mono ?_
       rintro e w5 ⟨b1,b2,u,rfl,h51,h52,hu,h5⟩
       have HU:=hid hu
       have H51:=hid h51
       have H52:=hid h52
       have H5:=hid h5
       have HBE5:Hid (Below (N+1) W w5):=hid (HBE.o.trans (h5.mono (by have:=HBE.o.size;have:=HWN.o;omega)))
       clear hu h51 h52 h5))
   have HO5:Hid (w5.ownsRow (N+1) 9 1 u6 k (strV vs)):=hid (ownsRow_keep HOW.o (Chg.of_below (M:=fun _ _=>False) H5.o) (fun _ _ _ h=>h))
   obtain ⟨c0,c1⟩:=HCEL.o w5 HBE5.o
   go_upto_region 9 with (first
    | (go_at_call 174
       (with_reducible refine (HLA.o _).mono ?_)
       rintro e w6 ⟨rfl,h6⟩
       have H6:=hid h6
       have H61:Hid (w6.cell? ⟨b1,0,none⟩=some (.int .i64 (k:Int))):=hid ((h6.cell (World.block_lt_of_cell? w5 _ H51.o)).trans H51.o)
       have H62:Hid (w6.cell? ⟨b2,0,none⟩=some (.string u)):=hid ((h6.cell (World.block_lt_of_cell? w5 _ H52.o)).trans H52.o)
       have HBE6:Hid (Below (N+1) W w6):=hid (HBE5.o.trans (h6.mono (by have:=HBE5.o.size;have:=HWN.o;omega)))
       clear h6)
    | (go_at_call 242
       (with_reducible refine (at_ok b1 b2 k L hk9 hLL u (nb_size HU.o (secret_length _ _)) w6 H61.o H62.o (HLD.o _ HBE6.o)).mono ?_)
       rintro e w7 ⟨y,rfl,hy,h7⟩
       have HY:=hid hy
       have HBE7:Hid (Below (N+1) W w7):=hid (HBE6.o.trans (h7.mono (by have:=HBE6.o.size;have:=HWN.o;omega)))
       have HO7:Hid (w7.ownsRow (N+1) 9 1 u6 k (strV vs)):=hid (ownsRow_keep HO5.o ((Chg.of_below (M:=fun _ _=>False) H6.o).trans (Chg.of_below (M:=fun _ _=>False) h7)) (fun _ _ _ h=>h))
       clear hy h7)
    | (at_builtin
       refine wpList_append_own _ rfl _ _ 43 rfl (N+1) 9 i0 (.string ByteArray.empty) 1 16 Tryz.underlying43 FI.o FZ0.o FZ1.o FZ2.o rfl (by decide) _ _ _ rfl (HO7.o.alloc _) ⟨w7.heap.size,0,none⟩ 1 1 [.string y] rfl rfl (cell_one_new _ _ _) (by simp [Value.oneCell']) (by unfold maxLen;omega) (by omega) (by have:=HBE7.o.size;have:=HWN.o;simp;omega) ?_
       intro v8 w8 hown8 hgr8 _
       have HO8:Hid (w8.ownsRow (N+1) 9 1 v8 (k+1) (strV (vs++[y]))):=by rw [strV_app];exact hown8
       have HC8:Hid (Chg (fun q _=>N+1≤q) w7 w8):=(Chg.alloc1 w7 _).trans (Chg.of_grown hgr8 (fun q _ e=>(HO7.o.lt q e).1))
       have HBE8:Hid (Below (N+1) W w8):=hid (HBE7.o.trans (HC8.o.below (by have:=HBE7.o.size;have:=HWN.o;omega) (fun q i hq h=>by omega)))
       clear hown8 hgr8))
   go_wp2_with fail
   go_roundw
   case rel=>
    refine ⟨k+1,vs++[y],hlt,by go_num,by rw [List.length_append,HVL.o];rfl,?_,HO8.o,HBE8.o⟩
    show _=_
    rw [List.map_append,HVS.o,range_snoc]
    simp [HY.o,HU.o]
   case measure=>simp [intOf];omega
  ·have hke:k=C:=by omega
   have hki: ¬(k:Int)<(C:Int):=by omega
   obtain ⟨a9,cp9,hv9,hl9,hc9,hS9,hnil9,hlt9⟩:=strs_of_own HOW.o
   subst hv9
   have HS9:=hid hS9
   have HL9:=hid hl9
   have HC9:=hid hc9
   have HKE:=hid hke
   have H32:Hid (∀s ∈ vs,s.size=32):=hid (fun s hs=>by
    have h1:nb s ∈ vs.map nb:=List.mem_map.2 ⟨s,hs,rfl⟩
    rw [HVS.o] at h1
    obtain ⟨i,_,he⟩:=List.mem_map.1 h1
    rw [← nb_length,← he]
    exact chain_length _ _ _ _ (secret_length _ _))
   clear hS9 hl9 hc9 hnil9 hlt9 hke
   go_wp2_with (first
    | (with_reducible refine (publicKey_any a9 cp9 vs k HL9.o (by rw [HL9.o];omega) (by rw [HL9.o];omega) HC9.o H32.o _ HS9.o (HLD.o _ HBE.o)).mono ?_
       rintro e w6 ⟨u,rfl,hu,h6⟩
       have HU:=hid hu
       have H6:Hid (Below (N+1) W w6):=hid (HBE.o.trans (h6.mono (by have:=HBE.o.size;have:=HWN.o;omega)))
       clear hu h6))
   go_ret2
   exact ⟨u,rfl,by rw [HU.o,HVS.o,HPU.o,HKE.o],by rw [HN.o];exact HB.o.trans (H6.o.mono (Nat.le_succ N))⟩
theorem own_ints {w:World} {base n:Nat} {v:Value} {zs:List Nat} (h:w.ownsRow base 3 1 v n (natV zs)):
    ∃a cap,v= .slice a n cap∧zs.length=n∧zs.length≤cap∧IntsAt w a zs∧(a=none→cap=0):=by
 obtain ⟨hn,a,cap,rfl,h1,h2,h3,h4⟩:=ints_of_own h
 exact ⟨a,cap,by rw [hn],hn.symm,h1,h3,h4⟩
theorem mk_strs (L:Nat) (hL:L≤100000) (W:World):(Instr.makeSlice 43 (.int .i64 (L:Int)) (.int .i64 (L:Int))).run Tryz.prog W= .ok (.slice (some ⟨W.heap.size,0,none⟩) L L) (W.alloc (.cells (strV (List.replicate L ByteArray.empty)).toArray 9)):=by
 obtain ⟨i0,hi0,hz0,hz1,hz2⟩:=info_parts Tryz.info9
 have h:=run_makeSlice (P:= Tryz.prog) (w:=W) 43 9 i0 _ Tryz.underlying43 hi0 hz0 .i64 .i64 (L:Int) (L:Int) (by omega) (by omega) (by rw [hz1];omega) (by rw [hz2];omega) (by omega)
 rw [h,hz1]
 simp only [Int.toNat_natCast,Nat.mul_one]
 have e:madeCells (Value.string ByteArray.empty).cells L=(strV (List.replicate L ByteArray.empty)).toArray:=by
  unfold madeCells strV
  simp [Value.cells]
  apply Array.ext
  ·simp
  ·intro i h1 h2
   simp [Nat.mod_one]
 rw [e]
theorem set_next {vs:List ByteArray} {k L:Nat} (y:ByteArray) (hv:vs.length=k) (hk:k<L):(vs++List.replicate (L - k) ByteArray.empty).set k y=(vs++[y])++List.replicate (L - (k+1)) ByteArray.empty:=by
 subst hv
 rw [List.set_append_right _ _ (Nat.le_refl _),Nat.sub_self,show L - vs.length=(L - (vs.length+1))+1 by omega,List.replicate_succ,List.set_cons_zero]
 simp
theorem strV_set (ss:List ByteArray) (k:Nat) (y:ByteArray):(strV ss).toArray.setIfInBounds k (.string y)=(strV (ss.set k y)).toArray:=by
 simp [strV]
theorem sign_ok (b:Nat) (digest:ByteArray) (hB:Bits b) (hn:0<digest.size) (hn2:digest.size≤32) (seed:ByteArray) (hs:seed.size=32) (w:World) (hL:Laid w):
    Calls Tryz.prog 184 #[.agg #[.int .i64 (b:Int),.int .i64 (digest.size:Int)],.string seed,.string digest] w fun e w'=> ∃(g L:Nat) (vs:List ByteArray),e= .returned (.tuple #[.slice (some ⟨g,0,none⟩) L L,.int .i64 0])∧vs.length=L∧L=count b digest.size∧vs.map nb=sign (nb seed) (One.digits b (nb digest))∧StrsAt w' (some ⟨g,0,none⟩) vs∧w.heap.size≤g∧Below w.heap.size w w':=by
 have HS:Hid (decide (seed.size=32)=true):=hid (decide_eq_true hs)
 have HSS:=hid hs
 have HDG:=hid (fun w=>digits_ok b digest hB hn hn2 w)
 have HDL:Hid ((One.digits b (nb digest)).length=count b digest.size):=hid (by rw [digits_length hB,nb_length])
 have HD255:Hid (∀x ∈ One.digits b (nb digest),x≤255):=hid (fun x hx=>by
  have h1:=digits_lt b _ x hx
  have h2:=last_le hB
  unfold last at h2
  omega)
 have hC:=count_le hB hn2
 have HL:=hid hL
 obtain ⟨DG,hDG⟩:=ex_eq (One.digits b (nb digest))
 rw [hDG] at HDG HDL HD255 ⊢
 have HSG:Hid (sign (nb seed) DG=(List.range DG.length).map fun i=>chain i 0 (DG.getD i 0) (secret (nb seed) i)):=rfl
 obtain ⟨C,hCe⟩:=ex_eq (count b digest.size)
 rw [hCe] at hC HDL ⊢
 clear hL hs hB hn hn2 hCe hDG
 go_enter Tryz.func184,Tryz.ntmps184
 go_upto_region 1 with fail
 refine wp_over (fun W=>Hid (W.heap[w.heap.size]? =some (.cells #[.int .i64 (b:Int),.int .i64 (digest.size:Int)] 139 (0,0)))∧Hid (Below w.heap.size w W)) ⟨heap_alloc_new _ _,(Below.refl _ _).alloc (Nat.le_refl _) _⟩ ?_
 rintro W ⟨HG,HB⟩
 obtain ⟨N,hN⟩:=ex_eq w.heap.size
 rw [hN] at HG HB ⊢
 have HN:=hid hN
 clear hN
 have HWN:Hid (N+1≤W.heap.size):=hid (gS HG.o).1
 have HLD:Hid (∀V,Below N w V→Laid V):=hid (fun V h=>HL.o.later h (by rw [HN.o];exact Nat.le_refl _))
 have c0:W.cell? ⟨N,0,none⟩=some (.int .i64 (b:Int)):=cr HG.o
 have c1:W.cell? ⟨N,1,none⟩=some (.int .i64 (digest.size:Int)):=cr HG.o
 go_upto_region 4 with (first
  | (with_reducible refine (HDG.o _).mono ?_
     rintro e w2 ⟨x,L,rfl,hL,hown,h2⟩
     rw [HDL.o] at hL
     have hL2:=hL.symm
     subst hL2
     obtain ⟨a2,cp2,rfl,hl2,hc2,hI2,hnil2⟩:=own_ints hown
     have HI2:=hid hI2
     have HL2:=hid hl2
     have H2:Hid (Below N w w2):=hid (HB.o.trans (h2.mono (by have:=HWN.o;omega)))
     clear h2 hown hl2 hc2 hI2 hnil2 hL)
  | (with_reducible refine (isSum_any seed _).mono ?_;rintro e w3 ⟨rfl,rfl⟩;rw [HS.o]))
 rename World=>w2
 clear c0 c1
 have hmk:=mk_strs C (by omega)
 go_upto_region 5 with fail
 refine wp_over (fun W=>Hid (W.heap[w2.heap.size]? =some (.cells (strV (List.replicate C ByteArray.empty)).toArray 9 (0,0)))∧Hid (Below w2.heap.size w2 W)) ⟨heap_alloc_new _ _,(Below.refl _ _).alloc (Nat.le_refl _) _⟩ ?_
 rintro V ⟨HGV,HBV⟩
 obtain ⟨G,hGe⟩:=ex_eq w2.heap.size
 rw [hGe] at HGV HBV ⊢
 have HGE:=hid hGe
 have HNG:Hid (N≤G):=hid (by rw [← hGe];have:=HB.o.size;have:=H2.o.size;have:=HN.o;omega)
 clear hGe hmk
 go_upto_region 6 with fail
 go_loopw [32] (fun y wr=> ∃(k:Nat) (vs:List ByteArray),k≤C∧y= .int .i64 (k:Int)∧vs.length=k∧Hid (vs.map nb=(List.range k).map fun i=>chain i 0 (DG.getD i 0) (secret (nb seed) i))∧Hid (wr.heap[G]? =some (.cells (strV (vs++List.replicate (C - k) ByteArray.empty)).toArray 9 (0,0)))∧Hid (Below G w2 wr)) (fun y _=>C - (intOf y).toNat)
 case atStart=>exact ⟨0,[],by omega,rfl,rfl,rfl,HGV.o,HBV.o⟩
 case round=>
  obtain ⟨k,vs,hk,rfl,hvl,HVS,HROW,HBE⟩:=hrel
  have HVL:=hid hvl
  clear hvl
  by_cases hlt:k<C
  ·have hki:(k:Int)<(C:Int):=by omega
   have hk9:k≤999:=by omega
   obtain ⟨b',o',rfl,hcs⟩: ∃b o,a2=some ⟨b,o,none⟩∧ ∀i,i<DG.length→wr.cell? ⟨b,o+i,none⟩=some (.int .i64 ((DG.getD i 0:Nat):Int)):=by
    rcases HI2.o.later (by rw [HGE.o];exact HBE.o) with h | h
    ·have:=HL2.o;rw [h] at this;simp at this;omega
    ·exact h
   have hck:=hcs k (by rw [HL2.o];exact hlt)
   have hd255:DG.getD k 0≤255:=by
    rw [lD,lE (by rw [HL2.o];exact hlt)];exact HD255.o _ (List.getElem_mem _)
   obtain ⟨d,hd⟩:=ex_eq (DG.getD k 0)
   rw [hd] at hck hd255
   have HD:=hid hd
   clear hcs hd
   have HWR:Hid (G+1≤wr.heap.size):=hid (gS HROW.o).1
   have HBW:Hid (Below N w wr):=hid (H2.o.trans (HBE.o.mono HNG.o))
   go_upto_region 9 with (first
    | (with_reducible refine (chainOf_ok seed HSS.o k hk9 _ (HLD.o _ HBW.o)).mono ?_
       rintro e w5 ⟨b1,b2,u,rfl,h51,h52,hu,h5⟩
       have HU:=hid hu
       have H51:=hid h51
       have H52:=hid h52
       have H5:=hid h5
       clear hu h51 h52 h5))
   clear hck
   have HBW5:Hid (Below N w w5):=hid (HBW.o.trans (H5.o.mono (by have:=HWR.o;have:=HNG.o;omega)))
   have HROW5:Hid (w5.heap[G]? =some (.cells (strV (vs++List.replicate (C - k) ByteArray.empty)).toArray 9 (0,0))):=hid ((H5.o.block G (by have:=HWR.o;omega)).trans HROW.o)
   go_upto_region 10 with (first
    | (go_at_call 242
       (with_reducible refine (at_ok b1 b2 k d hk9 hd255 u (nb_size HU.o (secret_length _ _)) w5 H51.o H52.o (HLD.o _ HBW5.o)).mono ?_)
       rintro e w7 ⟨y,rfl,hy,h7⟩
       have HY:=hid hy
       have hrow7:=(h7.block G (by have:=(gS HROW5.o).1;omega)).trans HROW5.o
       have HROW7:=hid hrow7
       have HB7:Hid (Below G w2 w7):=hid (HBE.o.trans ((H5.o.mono (by have:=HWR.o;omega)).trans (h7.mono (by have:=(gS HROW5.o).1;omega))))
       have hfz:w7.frozen? ⟨G,k,none⟩=false:=frozen_of_row _ _ _ _ _ hrow7
       obtain ⟨old,hold⟩: ∃old,w7.cell? ⟨G,k,none⟩=some old:=⟨_,(cell_of_row _ _ _ _ _ _ hrow7).trans (Array.getElem?_eq_getElem (by rw [List.size_toArray,strV_length,List.length_append,HVL.o,List.length_replicate];omega))⟩
       clear hy h7 hrow7))
   go_wp2_with fail
   go_roundw
   case rel=>
    refine ⟨k+1,vs++[y],hlt,by go_num,by rw [List.length_append,HVL.o];rfl,?_,?_,?_⟩
    ·show _=_
     rw [List.map_append,HVS.o,range_snoc]
     simp only [List.map_cons,List.map_nil,HY.o,HU.o,HD.o]
    ·show _=_
     rw [heap_setCell_same _ _ _ _ _ _ HROW7.o,strV_set,set_next y HVL.o hlt]
    ·exact HB7.o.setCell (p:=⟨G,k,none⟩) (Nat.le_refl _) _
   case measure=>simp [intOf];omega
  ·have hke:k=C:=by omega
   subst hke
   have HROWE:Hid (wr.heap[G]? =some (.cells (strV vs).toArray 9 (0,0))):=hid (by have h:=HROW.o;rw [Nat.sub_self,List.replicate_zero,List.append_nil] at h;exact h)
   go_wp2_with fail
   go_ret2
   exact ⟨G,k,vs,rfl,HVL.o,rfl,by rw [HVS.o,HSG.o,HL2.o],strs_of_row HROWE.o,by rw [HN.o];exact HNG.o,by rw [HN.o];exact H2.o.trans (HBE.o.mono HNG.o)⟩
theorem getD_mem {α:Type} (l:List α) (i:Nat) (d:α) (h:i<l.length):l.getD i d ∈ l:=by
 rw [lD,lE h];exact List.getElem_mem h
theorem getD_map (ss:List ByteArray) (i:Nat) (h:i<ss.length):(ss.map nb).getD i []=nb (ss.getD i ByteArray.empty):=by
 simp [lD,h]
theorem recover_run (b:Nat) (digest:ByteArray) (hB:Bits b) (hn:0<digest.size) (hn2:digest.size≤32) (a:Option Addr) (cap L:Nat) (ss:List ByteArray) (hLe:ss.length=L) (hLC:L=count b digest.size) (w:World) (hS:StrsAt w a ss) (hL:Laid w):
    Calls Tryz.prog 258 #[.agg #[.int .i64 (b:Int),.int .i64 (digest.size:Int)],.string digest,.slice a L cap] w fun e w'=>
     ((∀s ∈ ss,s.size=32)∧ ∃u:ByteArray,e= .returned (.tuple #[.string u,.int .i64 0])∧nb u=recover b (One.digits b (nb digest)) (ss.map nb)∧Below w.heap.size w w')∨
     ((∃s ∈ ss,s.size≠32)∧e= .returned (.tuple #[.string ByteArray.empty,.int .i64 1])∧Below w.heap.size w w'):=by
 have HDG:=hid (fun w=>digits_ok b digest hB hn hn2 w)
 have HDL:Hid ((One.digits b (nb digest)).length=L):=hid (by rw [digits_length hB,nb_length];exact hLC.symm)
 have HDLA:Hid (∀x ∈ One.digits b (nb digest),x≤last b):=hid (fun x hx=>by
  have h1:=digits_lt b _ x hx
  unfold last
  omega)
 have hC:L≤269:=by rw [hLC];exact count_le hB hn2
 have hC0:0<L:=by rw [hLC];exact count_pos hB
 have hM:=last_le hB
 have HLA:=hid (fun w=>last_any (b:Int) (digest.size:Int) b rfl hB w)
 have HL:=hid hL
 have HSL:=hid hLe
 have HST:=hid hS
 obtain ⟨DG,hDG⟩:=ex_eq (One.digits b (nb digest))
 rw [hDG] at HDG HDL HDLA ⊢
 have HRE:Hid (recover b DG (ss.map nb)=pubOf ((List.range DG.length).map fun i=>chain i (DG.getD i 0) (last b - DG.getD i 0) ((ss.map nb).getD i []))):=rfl
 obtain ⟨M,hMe⟩:=ex_eq (last b)
 rw [hMe] at hM HLA HDLA HRE
 clear hL hB hn hn2 hDG hMe hS hLe hLC
 go_enter Tryz.func258,Tryz.ntmps258
 go_upto_region 1 with fail
 refine wp_over (fun W=>Hid (W.heap[w.heap.size]? =some (.cells #[.int .i64 (b:Int),.int .i64 (digest.size:Int)] 139 (0,0)))∧Hid (Below w.heap.size w W)) ⟨heap_alloc_new _ _,(Below.refl _ _).alloc (Nat.le_refl _) _⟩ ?_
 rintro W ⟨HG,HB⟩
 obtain ⟨N,hN⟩:=ex_eq w.heap.size
 rw [hN] at HG HB ⊢
 have HN:=hid hN
 clear hN
 have HWN:Hid (N+1≤W.heap.size):=hid (gS HG.o).1
 have HLD:Hid (∀V,Below N w V→Laid V):=hid (fun V h=>HL.o.later h (by rw [HN.o];exact Nat.le_refl _))
 have c0:W.cell? ⟨N,0,none⟩=some (.int .i64 (b:Int)):=cr HG.o
 have c1:W.cell? ⟨N,1,none⟩=some (.int .i64 (digest.size:Int)):=cr HG.o
 go_upto_region 4 with (first
  | (with_reducible refine (HDG.o _).mono ?_
     rintro e w2 ⟨x,L2,rfl,hL,hown,h2⟩
     rw [HDL.o] at hL
     have hL3:=hL.symm
     subst hL3
     obtain ⟨a2,cp2,rfl,hl2,hc2,hI2,hnil2⟩:=own_ints hown
     have HI2:=hid hI2
     have H2:Hid (Below N w w2):=hid (HB.o.trans (h2.mono (by have:=HWN.o;omega)))
     have HG2:Hid (w2.heap[N]? =some (.cells #[.int .i64 (b:Int),.int .i64 (digest.size:Int)] 139 (0,0))):=hid ((h2.block N (by have:=HWN.o;omega)).trans HG.o)
     clear h2 hown hl2 hc2 hI2 hnil2))
 have hmk:=mk_strs L (by omega)
 clear c0 c1
 go_upto_region 5 with fail
 refine wp_over (fun W=>Hid (W.heap[w2.heap.size]? =some (.cells (strV (List.replicate L ByteArray.empty)).toArray 9 (0,0)))∧Hid (Below w2.heap.size w2 W)) ⟨heap_alloc_new _ _,(Below.refl _ _).alloc (Nat.le_refl _) _⟩ ?_
 rintro V ⟨HGV,HBV⟩
 obtain ⟨G,hGe⟩:=ex_eq w2.heap.size
 rw [hGe] at HGV HBV ⊢
 have HGE:=hid hGe
 have HNG:Hid (N+1≤G):=hid (by rw [← hGe];have:=(gS HG2.o).1;omega)
 clear hGe hmk
 obtain ⟨b',o',rfl,hcs⟩: ∃b o,a2=some ⟨b,o,none⟩∧ ∀i,i<DG.length→w2.cell? ⟨b,o+i,none⟩=some (.int .i64 ((DG.getD i 0:Nat):Int)):=by
  rcases HI2.o with h | h
  ·have:=HDL.o;rw [h] at this;simp at this;omega
  ·exact h
 obtain ⟨pb,po,rfl,hps⟩: ∃b o,a=some ⟨b,o,none⟩∧ ∀i,i<ss.length→w.cell? ⟨b,o+i,none⟩=some (.string (ss.getD i ByteArray.empty)):=by
  rcases HST.o with h | h
  ·have:=HSL.o;rw [h] at this;simp at this;omega
  ·exact h
 have HSA:Hid (∀X,Below G w2 X→X.cell? ⟨N,0,none⟩=some (.int .i64 (b:Int))∧X.cell? ⟨N,1,none⟩=some (.int .i64 (digest.size:Int))∧ ∀k,k<L→X.cell? ⟨b',o'+k,none⟩=some (.int .i64 ((DG.getD k 0:Nat):Int))):=hid (fun X h=>by
  have hg:=(h.block N (by have:=HNG.o;omega)).trans HG2.o
  refine ⟨cr hg,cr hg,fun k hk=> ?_⟩
  have hc:=hcs k (by rw [HDL.o];exact hk)
  exact (h.cell (p:=⟨b',o'+k,none⟩) (by have:=World.block_lt_of_cell? w2 _ hc;rw [HGE.o] at this;exact this)).trans hc)
 have HPS:Hid (∀X,Below N w X→ ∀k,k<L→X.cell? ⟨pb,po+k,none⟩=some (.string (ss.getD k ByteArray.empty))):=hid (fun X h k hk=>by
  have hc:=hps k (by rw [HSL.o];exact hk)
  exact (h.cell (p:=⟨pb,po+k,none⟩) (by have:=World.block_lt_of_cell? w _ hc;rw [HN.o] at this;exact this)).trans hc)
 clear hcs hps
 go_upto_region 6 with fail
 go_loopw [33] (fun y wr=> ∃(k:Nat) (vs:List ByteArray),k≤L∧y= .int .i64 (k:Int)∧vs.length=k∧Hid (∀i,i<k→(ss.getD i ByteArray.empty).size=32)∧Hid (vs.map nb=(List.range k).map fun i=>chain i (DG.getD i 0) (M - DG.getD i 0) ((ss.map nb).getD i []))∧Hid (wr.heap[G]? =some (.cells (strV (vs++List.replicate (L - k) ByteArray.empty)).toArray 9 (0,0)))∧Hid (Below G w2 wr)) (fun y _=>L - (intOf y).toNat)
 case atStart=>exact ⟨0,[],by omega,rfl,rfl,fun i h=>by omega,rfl,HGV.o,HBV.o⟩
 case round=>
  obtain ⟨k,vs,hk,rfl,hvl,H32,HVS,HROW,HBE⟩:=hrel
  have HVL:=hid hvl
  clear hvl
  have HBW:Hid (Below N w wr):=hid (H2.o.trans (HBE.o.mono (by have:=HNG.o;omega)))
  by_cases hlt:k<L
  ·have hki:(k:Int)<(L:Int):=by omega
   have hk9:k≤999:=by omega
   have hps:=HPS.o wr HBW.o k hlt
   have HGM:=hid (getD_map ss k (by rw [HSL.o];exact hlt))
   have HSM:Hid (ss.getD k ByteArray.empty ∈ ss):=hid (getD_mem ss k _ (by rw [HSL.o];exact hlt))
   obtain ⟨s,hse⟩:=ex_eq (ss.getD k ByteArray.empty)
   rw [hse] at hps HGM HSM
   have HSE:=hid hse
   clear hse
   have hdM:DG.getD k 0≤M:=HDLA.o _ (getD_mem _ _ _ (by rw [HDL.o];exact hlt))
   have HWR:Hid (G+1≤wr.heap.size):=hid (gS HROW.o).1
   go_upto_region 8 with fail
   obtain ⟨c0,c1,c2⟩:=HSA.o wr HBE.o
   have c2:=c2 k hlt
   obtain ⟨d,hd⟩:=ex_eq (DG.getD k 0)
   rw [hd] at c2 hdM
   have HD:=hid hd
   have HSB:Hid (∀X,Below G w2 X→X.cell? ⟨N,0,none⟩=some (.int .i64 (b:Int))∧X.cell? ⟨N,1,none⟩=some (.int .i64 (digest.size:Int))∧X.cell? ⟨b',o'+k,none⟩=some (.int .i64 (d:Int))):=hid (fun X h=>by
    obtain ⟨h0,h1,h2⟩:=HSA.o X h
    have h3:=h2 k hlt
    rw [hd] at h3
    exact ⟨h0,h1,h3⟩)
   clear hd hps
   refine Kit.wp_region_plan (fun X=>X.cell? ⟨N,0,none⟩=some (.int .i64 (b:Int))∧X.cell? ⟨N,1,none⟩=some (.int .i64 (digest.size:Int))∧X.cell? ⟨b',o'+k,none⟩=some (.int .i64 (d:Int)))
    [(true,0),(true,1),(true,2),(true,3),(true,4),(true,5),(true,6),(true,7),(true,9),(false,8),(false,10),(true,11),(true,12),(true,13),(true,14),(false,15),(false,16)] (by kernel_rfl) (by kernel_rfl) (by kernel_rfl) (by kernel_rfl) ⟨c0,c1,c2⟩ ?_
   repeat (refine Kit.plan_head (by rfl) (.inl ⟨by rfl,fun w' hS=>by (dsimp only at hS);go_simp;(try with_reducible rfl)⟩) ?_;simp only [Act.put,List.setIfInBounds_toArray,List.set_cons_zero,List.set_cons_succ])
   clear c0 c1 c2
   refine Kit.plan_op (by rfl) rfl fun K hK=> ?_
   go_simp
   go_at_call 174
   refine (HLA.o _).mono ?_
   rintro e w5 ⟨rfl,h5⟩
   have HBE5:Hid (Below G w2 w5):=hid (HBE.o.trans ((Below.refl _ wr).drew.trans (h5.mono (by have:=HWR.o;show G≤wr.heap.size;omega))))
   have HROW5:Hid (w5.heap[G]? =some (.cells (strV (vs++List.replicate (L - k) ByteArray.empty)).toArray 9 (0,0))):=hid ((h5.block G (by have:=HWR.o;show G<wr.heap.size;omega)).trans HROW.o)
   have HBW5:Hid (Below N w w5):=hid (H2.o.trans (HBE5.o.mono (by have:=HNG.o;omega)))
   clear h5
   refine hK _ _ (HSB.o _ HBE5.o) ?_
   clear hK K
   by_cases h32:s.size=32
   ·refine Kit.plan_op (by rfl) rfl fun K hK=> ?_
    go_simp
    go_at_call 243
    refine (chain_ok k d M hk9 hdM hM s h32 _ (HLD.o _ HBW5.o)).mono ?_
    rintro e w6 ⟨y,rfl,hy,h6⟩
    have HY:=hid hy
    have HBE6:Hid (Below G w2 w6):=hid (HBE5.o.trans (h6.mono (by have:=(gS HROW5.o).1;omega)))
    have hrow6:=(h6.block G (by have:=(gS HROW5.o).1;omega)).trans HROW5.o
    have HROW6:=hid hrow6
    have hfz:w6.frozen? ⟨G,k,none⟩=false:=frozen_of_row _ _ _ _ _ hrow6
    obtain ⟨old,hold⟩: ∃old,w6.cell? ⟨G,k,none⟩=some old:=⟨_,(cell_of_row _ _ _ _ _ _ hrow6).trans (Array.getElem?_eq_getElem (by rw [List.size_toArray,strV_length,List.length_append,HVL.o,List.length_replicate];omega))⟩
    clear hy h6 hrow6
    refine hK _ _ (HSB.o _ HBE6.o) ?_
    clear hK K
    repeat (refine Kit.plan_head (by rfl) (.inl ⟨by rfl,fun w' hS=>by (dsimp only at hS);go_simp;(try with_reducible rfl)⟩) ?_;simp only [Act.put,List.setIfInBounds_toArray,List.set_cons_zero,List.set_cons_succ])
    have HBE7:Hid (Below G w2 (w6.setCell ⟨G,k,none⟩ (.string y))):=hid (HBE6.o.setCell (p:=⟨G,k,none⟩) (Nat.le_refl _) _)
    refine Kit.plan_op (by rfl) rfl fun K hK=> ?_
    go_simp
    refine hK _ _ (HSB.o _ HBE7.o) ?_
    clear hK K
    refine Kit.plan_op (by rfl) rfl fun K hK=> ?_
    go_simp
    refine hK _ _ (HSB.o _ HBE7.o) (Kit.plan_done ?_)
    clear hK K
    (try simp only [Act.put,List.setIfInBounds_toArray,List.set_cons_zero,List.set_cons_succ])
    go_wp2_with fail
    go_roundw
    case rel=>
     refine ⟨k+1,vs++[y],hlt,by go_num,by rw [List.length_append,HVL.o];rfl,?_,?_,?_,HBE7.o⟩
     ·intro i hi
      by_cases e:i=k
      ·rw [e,HSE.o];exact h32
      ·exact H32.o i (by omega)
     ·show _=_
      rw [List.map_append,HVS.o,range_snoc]
      simp only [List.map_cons,List.map_nil,HY.o,HD.o,HGM.o]
     ·show _=_
      rw [heap_setCell_same _ _ _ _ _ _ HROW6.o,strV_set,set_next y HVL.o hlt]
    case measure=>simp [intOf];omega
   ·refine Kit.plan_op (by rfl) rfl fun K hK=> ?_
    go_simp
    go_at_call 243
    refine (chain_bad (k:Int) (d:Int) (M:Int) s (fun h=>h32 h.2.2.2.2.2) w5).mono ?_
    rintro e w6 ⟨rfl,rfl⟩
    have hrow6:=HROW5.o
    have hfz:w5.frozen? ⟨G,k,none⟩=false:=frozen_of_row _ _ _ _ _ hrow6
    obtain ⟨old,hold⟩: ∃old,w5.cell? ⟨G,k,none⟩=some old:=⟨_,(cell_of_row _ _ _ _ _ _ hrow6).trans (Array.getElem?_eq_getElem (by rw [List.size_toArray,strV_length,List.length_append,HVL.o,List.length_replicate];omega))⟩
    clear hrow6
    refine hK _ _ (HSB.o _ HBE5.o) ?_
    clear hK K
    repeat (refine Kit.plan_head (by rfl) (.inl ⟨by rfl,fun w' hS=>by (dsimp only at hS);go_simp;(try with_reducible rfl)⟩) ?_;simp only [Act.put,List.setIfInBounds_toArray,List.set_cons_zero,List.set_cons_succ])
    have HBE7:Hid (Below G w2 (w5.setCell ⟨G,k,none⟩ (.string ByteArray.empty))):=hid (HBE5.o.setCell (p:=⟨G,k,none⟩) (Nat.le_refl _) _)
    refine Kit.plan_op (by rfl) rfl fun K hK=> ?_
    go_simp
    refine hK _ _ (HSB.o _ HBE7.o) ?_
    clear hK K
    refine Kit.plan_op (by rfl) rfl fun K hK=> ?_
    go_simp
    refine hK _ _ (HSB.o _ HBE7.o) (Kit.plan_done ?_)
    clear hK K
    (try simp only [Act.put,List.setIfInBounds_toArray,List.set_cons_zero,List.set_cons_succ])
    go_wp2_with fail
    go_ret2
    exact .inr ⟨⟨s,HSM.o,h32⟩,rfl,by rw [HN.o];exact H2.o.trans (HBE7.o.mono (by have:=HNG.o;omega))⟩
  ·have hke:k=L:=by omega
   subst hke
   have HROWE:Hid (wr.heap[G]? =some (.cells (strV vs).toArray 9 (0,0))):=hid (by have h:=HROW.o;rw [Nat.sub_self,List.replicate_zero,List.append_nil] at h;exact h)
   have H32E:Hid (∀s ∈ ss,s.size=32):=hid (fun s hs=>by
    obtain ⟨i,hi,rfl⟩:=List.getElem_of_mem hs
    have h:=H32.o i (by rw [← HSL.o];exact hi)
    rwa [lD,lE hi] at h)
   have HV32:Hid (∀s ∈ vs,s.size=32):=hid (fun s hs=>by
    have h1:nb s ∈ vs.map nb:=List.mem_map.2 ⟨s,hs,rfl⟩
    rw [HVS.o] at h1
    obtain ⟨i,hi,he⟩:=List.mem_map.1 h1
    have hi2:=List.mem_range.1 hi
    rw [← nb_length,← he]
    refine chain_length _ _ _ _ ?_
    rw [getD_map ss i (by rw [HSL.o];exact hi2),nb_length]
    exact H32.o i hi2)
   go_wp2_with (first
    | (with_reducible refine (publicKey_any (some ⟨G,0,none⟩) k vs k HVL.o (by rw [HVL.o];exact hC0) (by rw [HVL.o];omega) (by rw [HVL.o];exact Nat.le_refl _) HV32.o _ (strs_of_row HROWE.o) (HLD.o _ HBW.o)).mono ?_
       rintro e w6 ⟨u,rfl,hu,h6⟩
       have HU:=hid hu
       have H6:Hid (Below N w w6):=hid (HBW.o.trans (h6.mono (by have:=(gS HROWE.o).1;have:=HNG.o;omega)))
       clear hu h6))
   go_ret2
   exact .inl ⟨H32E.o,u,rfl,by rw [HU.o,HVS.o,HRE.o,HDL.o],by rw [HN.o];exact H6.o⟩
theorem recover_bad (B S:Int) (digest:ByteArray) (a:Option Addr) (cap L:Nat) (hL:L<9223372036854775808) (hb: ¬(VP B S∧(digest.size:Int)=S∧L=count B.toNat digest.size)) (w:World):
    Calls Tryz.prog 258 #[.agg #[.int .i64 B,.int .i64 S],.string digest,.slice a L cap] w fun e w'=>e= .returned (.tuple #[.string ByteArray.empty,.int .i64 1])∧Below w.heap.size w w':=by
 by_cases hP:VP B S∧(digest.size:Int)=S
 ·obtain ⟨hV,rfl⟩:=hP
  obtain ⟨b,hbn⟩: ∃b:Nat,B=(b:Int):=⟨B.toNat,by have:=hV.1;omega⟩
  subst hbn
  have hB:Bits b:=by
   have:=hV.1
   unfold Bits
   omega
  have HDG:=hid (fun w=>digits_ok b digest hB (by have:=hV.2.1;omega) (by have:=hV.2.2;omega) w)
  have hne:L≠count b digest.size:=fun e=>hb ⟨hV,rfl,e⟩
  have HDL:Hid ((One.digits b (nb digest)).length=count b digest.size):=hid (by rw [digits_length hB,nb_length])
  obtain ⟨C,hC⟩:=ex_eq (count b digest.size)
  rw [hC] at hne HDL
  have hni:((L:Int) != (C:Int))=true:=by rw [bne_iff_ne];omega
  clear hb hV hB hC
  go_enter Tryz.func258,Tryz.ntmps258
  go_wp2_with (first
   | (with_reducible refine (HDG.o _).mono ?_
      rintro e w2 ⟨x,L2,rfl,hL2,hown,h2⟩
      rw [HDL.o] at hL2
      have hL3:=hL2.symm
      subst hL3
      obtain ⟨a2,cp2,rfl,hl2,hc2,hI2,hnil2⟩:=own_ints hown
      have H2:Hid (Below w.heap.size w w2):=hid (((Below.refl _ w).alloc (Nat.le_refl _) _).trans (h2.mono (by simp)))
      clear h2 hown hl2 hc2 hI2 hnil2))
  go_ret2
  exact ⟨rfl,H2.o⟩
 ·have HDG:=hid (fun w=>digits_bad B S digest hP w)
  clear hb hP
  go_enter Tryz.func258,Tryz.ntmps258
  go_wp2_with (first
   | (with_reducible refine (HDG.o _).mono ?_
      rintro e w2 ⟨rfl,h2⟩
      have H2:Hid (Below w.heap.size w w2):=hid (((Below.refl _ w).alloc (Nat.le_refl _) _).trans (h2.mono (by simp)))
      clear h2))
  go_ret2
  exact ⟨rfl,H2.o⟩
theorem recover_ok (b:Nat) (digest:ByteArray) (hB:Bits b) (hn:0<digest.size) (hn2:digest.size≤32) (a:Option Addr) (cap L:Nat) (ss:List ByteArray) (hLe:ss.length=L) (hLC:L=count b digest.size) (h32: ∀s ∈ ss,s.size=32) (w:World) (hS:StrsAt w a ss) (hL:Laid w):
    Calls Tryz.prog 258 #[.agg #[.int .i64 (b:Int),.int .i64 (digest.size:Int)],.string digest,.slice a L cap] w fun e w'=> ∃u:ByteArray,e= .returned (.tuple #[.string u,.int .i64 0])∧nb u=recover b (One.digits b (nb digest)) (ss.map nb)∧Below w.heap.size w w':=by
 refine (recover_run b digest hB hn hn2 a cap L ss hLe hLC w hS hL).mono ?_
 rintro e w' (⟨_,h⟩ | ⟨⟨s,hs,hne⟩,_⟩)
 ·exact h
 ·exact absurd (h32 s hs) hne
theorem recover_part (b:Nat) (digest:ByteArray) (hB:Bits b) (hn:0<digest.size) (hn2:digest.size≤32) (a:Option Addr) (cap L:Nat) (ss:List ByteArray) (hLe:ss.length=L) (hLC:L=count b digest.size) (h32: ¬ ∀s ∈ ss,s.size=32) (w:World) (hS:StrsAt w a ss) (hL:Laid w):
    Calls Tryz.prog 258 #[.agg #[.int .i64 (b:Int),.int .i64 (digest.size:Int)],.string digest,.slice a L cap] w fun e w'=>e= .returned (.tuple #[.string ByteArray.empty,.int .i64 1])∧Below w.heap.size w w':=by
 refine (recover_run b digest hB hn hn2 a cap L ss hLe hLC w hS hL).mono ?_
 rintro e w' (⟨h,_⟩ | ⟨_,h⟩)
 ·exact absurd h h32
 ·exact h
theorem dig_getD (b:Nat): ∀c s t,t<c→(dig b c s).getD t 0=s/2 ^ (b*(c - 1 - t)) % 2 ^ b
 | 0,_,_,h=>by omega
 | c+1,s,0,_=>by rw [dig,List.getD_cons_zero];rfl
 | c+1,s,t+1,h=>by
   rw [dig,List.getD_cons_succ,dig_getD b c s t (by omega)]
   rw [show c - 1 - t=c+1 - 1 - (t+1) by omega]
theorem mainD_getD (b:Nat): ∀(bs:List Nat) (B t:Nat),B<bs.length→t<8/b→(mainD b bs).getD (8/b*B+t) 0=bs.getD B 0/2 ^ (b*(8/b - 1 - t)) % 2 ^ b
 | [],B,t,h,_=>by simp at h
 | x::bs,0,t,_,ht=>by
   unfold mainD
   rw [List.flatMap_cons,Nat.mul_zero,Nat.zero_add,getD_app_l _ _ _ (by rw [dig_length];exact ht),dig_getD b _ x t ht,List.getD_cons_zero]
 | x::bs,B+1,t,h,ht=>by
   have ih:=mainD_getD b bs B t (by simpa using h) ht
   unfold mainD at ih ⊢
   rw [List.flatMap_cons,show 8/b*(B+1)+t=(dig b (8/b) x).length+(8/b*B+t) by rw [dig_length,Nat.mul_add,Nat.mul_one];omega,getD_app_r,ih,List.getD_cons_succ]
theorem bit_of (y b j:Nat) (h:j<b):y % 2 ^ b/2 ^ j % 2=y/2 ^ j % 2:=by
 have e:2 ^ b=2 ^ j*2 ^ (b - j):=by rw [← Nat.pow_add,show j+(b - j)=b by omega]
 rw [e,Nat.mod_mul_right_div_self]
 exact Nat.mod_mod_of_dvd _ (by rw [show b - j=(b - j - 1)+1 by omega,Nat.pow_succ];exact Nat.dvd_mul_left ..)
def bitAt (bs:List Nat) (i:Nat):Nat:=bs.getD (i/8) 0/2 ^ (7 - i % 8) % 2
theorem bit_main {b:Nat} (hB:Bits b) (bs:List Nat) (i k:Nat) (hi:i<8*bs.length/b) (hk:k<b):bitAt bs (i*b+k)=(mainD b bs).getD i 0/2 ^ (b - 1 - k) % 2:=by
 have h8:b*(8/b)=8:=by rcases hB with rfl | rfl | rfl | rfl<;> rfl
 have hb:=hB.pos
 have hJ:0<8/b:=by rcases hB with rfl | rfl | rfl | rfl<;> decide
 have hib:i*b+b≤8*bs.length:=by
  have h1:(i+1)*b≤8*bs.length:=by
   calc (i+1)*b≤8*bs.length/b*b:=Nat.mul_le_mul_right _ hi
    _≤8*bs.length:=Nat.div_mul_le_self _ _
  rw [Nat.add_mul,Nat.one_mul] at h1
  exact h1
 have e1:i=8/b*(i/(8/b))+i % (8/b):=(Nat.div_add_mod _ _).symm
 have ht:=Nat.mod_lt i hJ
 obtain ⟨B,hBe⟩: ∃B,i/(8/b)=B:=⟨_,rfl⟩
 obtain ⟨t,hte⟩: ∃t,i % (8/b)=t:=⟨_,rfl⟩
 rw [hBe,hte] at e1
 rw [hte] at ht
 have e2:i*b=8*B+t*b:=by
  rw [e1,Nat.add_mul]
  have:8/b*B*b=b*(8/b)*B:=by rw [Nat.mul_comm b,Nat.mul_assoc,Nat.mul_assoc,Nat.mul_comm B b]
  rw [this,h8]
 have htb:t*b+b≤8:=by
  have:(t+1)*b≤8/b*b:=Nat.mul_le_mul_right _ ht
  rw [Nat.mul_comm (8/b),h8,Nat.add_mul,Nat.one_mul] at this
  exact this
 have hBl:B<bs.length:=by omega
 have e3:(i*b+k)/8=B:=by omega
 have e4:(i*b+k) % 8=t*b+k:=by omega
 unfold bitAt
 rw [e3,e4,e1,mainD_getD b bs B t hBl ht,bit_of _ b (b - 1 - k) (by omega),Nat.div_div_eq_div_mul,← Nat.pow_add]
 congr 3
 have e5:b*(8/b - 1 - t)=8 - b - t*b:=by
  rw [Nat.mul_sub,Nat.mul_sub,h8,Nat.mul_one,Nat.mul_comm b t]
 rw [e5]
 omega
theorem top_bits (D b k:Nat) (hk:k<b):2*(D/2 ^ (b - k))+D/2 ^ (b - 1 - k) % 2=D/2 ^ (b - (k+1)):=by
 have e:2 ^ (b - k)=2 ^ (b - (k+1))*2:=by rw [← Nat.pow_succ];congr 1;omega
 rw [e,← Nat.div_div_eq_div_mul,show b - 1 - k=b - (k+1) by omega]
 omega
theorem base_any (b n:Nat) (hB:Bits b) (w:World):Calls Tryz.prog 295 #[.agg #[.int .i64 (b:Int),.int .i64 (n:Int)]] w fun e w'=>e= .returned (.int .i64 ((2 ^ b:Nat):Int))∧Below w.heap.size w w':=by
 rcases hB with rfl | rfl | rfl | rfl
 all_goals
  go_enter Tryz.func295,Tryz.ntmps295
  go_wp2
  go_ret
  exact ⟨by rfl,(Below.refl _ _).alloc (Nat.le_refl _) _⟩
theorem main_any (b n:Nat) (hB:Bits b) (hn2:n≤32) (w:World):Calls Tryz.prog 293 #[.agg #[.int .i64 (b:Int),.int .i64 (n:Int)]] w fun e w'=> ∃m:Nat,e= .returned (.int .i64 (m:Int))∧m=8*n/b∧Below w.heap.size w w':=by
 have hbz: ¬b=0:=by have:=hB.pos;omega
 have hb8:b≤8:=by rcases hB with rfl | rfl | rfl | rfl<;> omega
 obtain ⟨m,hm⟩:=ex_eq (8*n/b)
 have hm2:m≤256:=by rw [← hm];rcases hB with rfl | rfl | rfl | rfl<;> omega
 have hidiv:(8*(n:Int)).tdiv (b:Int)=(m:Int):=by
  rw [Int.tdiv_eq_ediv_of_nonneg (by omega),← hm]
  rw [Int.natCast_ediv,Int.natCast_mul];rfl
 have HM:=hid hm
 clear hm hB
 go_enter Tryz.func293,Tryz.ntmps293
 go_wp2
 go_ret
 exact ⟨m,rfl,HM.o.symm,(Below.refl _ _).alloc (Nat.le_refl _) _⟩
theorem check_any (b n:Nat) (hB:Bits b) (hn:0<n) (hn2:n≤32) (w:World):Calls Tryz.prog 296 #[.agg #[.int .i64 (b:Int),.int .i64 (n:Int)]] w fun e w'=> ∃c:Nat,e= .returned (.int .i64 (c:Int))∧c=cnt b (great b n)∧Below w.heap.size w w':=by
 have hg2:=great_le hB hn2
 have hg0:=great_ne hB hn
 have HCP:=hid (cnt_pow hB hg0 hg2)
 have HCL:=hid (cnt_lt hB.pos hg0)
 have HC13:=hid (cnt_le hB hg2)
 have hC1:1≤cnt b (great b n):=by unfold cnt;exact Nat.succ_le_succ (Nat.zero_le _)
 have HPS:Hid (∀c,2 ^ (b*(c+1))=2 ^ (b*c)*2 ^ b):=hid (fun c=>by rw [Nat.mul_add,Nat.mul_one,Nat.pow_add])
 have HBA:=hid (fun w=>base_any b n hB w)
 have HMA:=hid (fun w=>main_any b n hB hn2 w)
 have HGR:Hid (8*n/b*(2 ^ b - 1)=great b n):=rfl
 have hP:2 ^ b≤256:=by rcases hB with rfl | rfl | rfl | rfl<;> decide
 have hP1:1≤2 ^ b:=Nat.two_pow_pos b
 have HM2:Hid (8*n/b≤256):=hid (by rcases hB with rfl | rfl | rfl | rfl<;> omega)
 obtain ⟨g,hg⟩:=ex_eq (great b n)
 rw [hg] at hg2 HCP HCL HC13 HGR hC1 ⊢
 obtain ⟨C,hC⟩:=ex_eq (cnt b g)
 rw [hC] at HCP HCL HC13 hC1 ⊢
 obtain ⟨P,hPe⟩:=ex_eq (2 ^ b)
 have HPE:=hid hPe
 rw [hPe] at HBA HGR hP hP1
 clear hC hg hg0 hB hn hn2 hPe
 go_enter Tryz.func296,Tryz.ntmps296
 go_upto_region 1 with fail
 refine wp_over (fun W=>Hid (W.heap[w.heap.size]? =some (.cells #[.int .i64 (b:Int),.int .i64 (n:Int)] 261 (0,0)))∧Hid (Below w.heap.size w W)) ⟨heap_alloc_new _ _,(Below.refl _ _).alloc (Nat.le_refl _) _⟩ ?_
 rintro W ⟨HG,HB⟩
 obtain ⟨N,hN⟩:=ex_eq w.heap.size
 rw [hN] at HG HB ⊢
 have HN:=hid hN
 clear hN
 have HWN:Hid (N+1≤W.heap.size):=hid (gS HG.o).1
 have HCE:Hid (∀V,Below (N+1) W V→V.cell? ⟨N,0,none⟩=some (.int .i64 (b:Int))∧V.cell? ⟨N,1,none⟩=some (.int .i64 (n:Int))):=hid (fun V h=>by
  have hg:=(h.block N (Nat.lt_succ_self N)).trans HG.o
  exact ⟨cr hg,cr hg⟩)
 have HST:Hid (∀V V',Below (N+1) W V→Below V.heap.size V V'→Below (N+1) W V'):=hid (fun V V' h h'=>h.trans (h'.mono (by have:=h.size;have:=HWN.o;omega)))
 obtain ⟨c0,c1⟩:=HCE.o W (Below.refl _ _)
 go_upto_region 2 with (first
  | (with_reducible refine (HBA.o _).mono ?_
     rintro e w1 ⟨rfl,h1⟩
     have H1:=hid (HST.o _ _ (Below.refl _ _) h1)
     clear h1 c0 c1))
 go_loopw [3,4] (fun x y wr=> ∃c:Nat,1≤c∧c≤C∧x= .int .i64 (c:Int)∧(∃q:Nat,y= .int .i64 (q:Int)∧Hid (q=2 ^ (b*c)))∧Hid (Below (N+1) W wr)) (fun x _ _=>C - (intOf x).toNat)
 case atStart=>exact ⟨1,Nat.le_refl _,hC1,rfl,⟨P,rfl,by show _=_;rw [← HPE.o,Nat.mul_one]⟩,H1.o⟩
 case round=>
  obtain ⟨c,hc1,hc,rfl,⟨q,rfl,HQ⟩,HBE⟩:=hrel
  have hq2:q≤2088960:=by rw [HQ.o];exact HCP.o c hc
  have hqg:q≤g↔c<C:=by rw [HQ.o];exact (HCL.o c).symm
  have HQG:=hid hqg
  clear hqg
  rename World=>wa
  obtain ⟨c0,c1⟩:=HCE.o wa HBE.o
  go_upto_region 2 with fail
  refine Kit.wp_region_plan (fun X=>X.cell? ⟨N,0,none⟩=some (.int .i64 (b:Int))∧X.cell? ⟨N,1,none⟩=some (.int .i64 (n:Int))) [(true,0),(true,1),(true,3),(false,2),(false,4),(true,5),(true,6),(true,7)] (by kernel_rfl) (by kernel_rfl) (by kernel_rfl) (by kernel_rfl) ⟨c0,c1⟩ ?_
  repeat (refine Kit.plan_head (by rfl) (.inl ⟨by rfl,fun w' hS=>by (dsimp only at hS);go_simp;(try with_reducible rfl)⟩) ?_;simp only [Act.put,List.setIfInBounds_toArray,List.set_cons_zero,List.set_cons_succ])
  refine Kit.plan_op (by rfl) rfl fun K hK=> ?_
  go_simp
  go_at_call 293
  refine (HMA.o _).mono ?_
  rintro e w2 ⟨m,rfl,hm,h2⟩
  have H2:=hid (HST.o _ _ HBE.o (show Below wa.heap.size wa w2 from (Below.refl _ wa).drew.trans h2))
  have hm2:m≤256:=by rw [hm];exact HM2.o
  have hmg:(m:Int)*((P:Int) - 1)=(g:Int):=by
   have h:=HGR.o
   rw [← hm] at h
   rw [← h,Int.natCast_mul,Int.natCast_sub hP1]
   rfl
  clear hm h2
  refine hK _ _ (HCE.o _ H2.o) ?_
  clear hK K c0 c1
  refine Kit.plan_op (by rfl) rfl fun K hK=> ?_
  go_simp
  go_at_call 295
  refine (HBA.o _).mono ?_
  rintro e w3 ⟨rfl,h3⟩
  have H3:=hid (HST.o _ _ H2.o h3)
  clear h3
  refine hK _ _ (HCE.o _ H3.o) ?_
  clear hK K
  have hw1:IntKind.i64.wrap ((P:Int) - 1)=(P:Int) - 1:=by rw [IntKind.wrap_i64];omega
  have hw2:IntKind.i64.wrap (g:Int)=(g:Int):=by rw [IntKind.wrap_i64];omega
  repeat (refine Kit.plan_head (by rfl) (.inl ⟨by rfl,fun w' hS=>by (dsimp only at hS);go_simp;(try with_reducible rfl)⟩) ?_;simp only [Act.put,List.setIfInBounds_toArray,List.set_cons_zero,List.set_cons_succ])
  refine Kit.plan_done ?_
  (try simp only [Act.put,List.setIfInBounds_toArray,List.set_cons_zero,List.set_cons_succ])
  clear hmg hw1 hw2
  obtain ⟨c0,c1⟩:=HCE.o w3 H3.o
  by_cases hlt:c<C
  ·have hle:(q:Int)≤(g:Int):=by have:=HQG.o.2 hlt;omega
   have hq3:q*P=2 ^ (b*(c+1)):=by rw [HPS.o,← HQ.o,HPE.o]
   have hq4:q*P≤2088960:=by rw [hq3];exact HCP.o (c+1) hlt
   have HQ3:=hid hq3
   have hqi:(q:Int)*(P:Int)=((q*P:Nat):Int):=by rw [Int.natCast_mul]
   obtain ⟨r,hr⟩:=ex_eq (q*P)
   rw [hr] at hqi hq4 HQ3
   clear hq3 hr
   have hc13:c+1≤13:=by have:=HC13.o;omega
   go_wp2_with (first
    | (with_reducible refine (HBA.o _).mono ?_
       rintro e w4 ⟨rfl,h4⟩
       have H4:=hid (HST.o _ _ H3.o h4)
       clear h4))
   go_roundw
   case rel=>exact ⟨c+1,by omega,hlt,by go_num,⟨r,by go_num,HQ3.o⟩,H4.o⟩
   case measure=>simp [intOf];omega
  ·have hle: ¬(q:Int)≤(g:Int):=by have: ¬q≤g:=fun e=>hlt (HQG.o.1 e);omega
   go_wp2_with fail
   go_ret
   exact ⟨c,rfl,by omega,by rw [HN.o];exact HB.o.trans (H3.o.mono (Nat.le_succ N))⟩
theorem and_one (x:Nat) (hx:x<256):bits .and .i64 (x:Int) 1=((x % 2:Nat):Int):=and_last x 1 (by omega) (by decide)
theorem bit_any (s:ByteArray) (i:Nat) (hi:i/8<s.size) (hi2:i≤100000) (w:World):Calls Tryz.prog 294 #[.string s,.int .i64 (i:Int)] w fun e w'=>e= .returned (.int .i64 (bitAt (nb s) i:Int))∧w=w':=by
 have HBI:Hid ((nb s).getD (i/8) 0/2 ^ (7 - i % 8) % 2=bitAt (nb s) i):=rfl
 have hix:=str_idx s (i/8) hi
 have hx:(nb s).getD (i/8) 0<256:=nb_lt s _ (getD_mem _ _ _ (by rw [nb_length];exact hi))
 obtain ⟨X,hX⟩:=ex_eq ((nb s).getD (i/8) 0)
 rw [hX] at hix hx HBI
 obtain ⟨T,hT⟩:=ex_eq (bitAt (nb s) i)
 rw [hT] at HBI ⊢
 have hq:(i:Int).tdiv 8=((i/8:Nat):Int):=by rw [Int.tdiv_eq_ediv_of_nonneg (by omega)];omega
 have hr:(i:Int).tmod 8=((i % 8:Nat):Int):=by rw [Int.tmod_eq_emod_of_nonneg (by omega)];omega
 obtain ⟨Q,hQ⟩:=ex_eq (i/8)
 obtain ⟨R,hR⟩:=ex_eq (i % 8)
 have hR7:R≤7:=by omega
 have hQ2:Q≤100000:=by omega
 obtain ⟨E,hE⟩:=ex_eq (7 - R)
 have hE7:E≤7:=by omega
 have hEi:(7:Int) - (R:Int)=(E:Int):=by omega
 rw [hQ] at hq hix
 rw [hR] at hr HBI
 rw [hE] at HBI
 have hxe:X/2 ^ E<256:=Nat.lt_of_le_of_lt (Nat.div_le_self _ _) hx
 have hsh:(X:Int)/2 ^ E=((X/2 ^ E:Nat):Int):=by rw [Int.natCast_ediv,Int.natCast_pow];rfl
 have ha:=and_one (X/2 ^ E) hxe
 rw [HBI.o] at ha
 obtain ⟨Y,hY⟩:=ex_eq (X/2 ^ E)
 rw [hY] at hsh ha hxe
 clear hX hT hQ hR hE hY hi HBI
 go_enter Tryz.func294,Tryz.ntmps294
 go_wp2
 go_ret
 exact ⟨rfl,rfl⟩
theorem refDigits_any (b:Nat) (s:ByteArray) (hB:Bits b) (hn:0<s.size) (hn2:s.size≤32) (w:World):
    Calls Tryz.prog 252 #[.agg #[.int .i64 (b:Int),.int .i64 (s.size:Int)],.string s] w fun e w'=> ∃x L,e= .returned x∧L=(One.digits b (nb s)).length∧w'.ownsRow w.heap.size 3 1 x L (natV (One.digits b (nb s)))∧Below w.heap.size w w':=by
 have HCK:=hid (fun w=>check_any b s.size hB hn hn2 w)
 have HMA:=hid (fun w=>main_any b s.size hB hn2 w)
 have HBA:=hid (fun w=>base_any b s.size hB w)
 have HBI:=hid (fun i h1 h2 w=>bit_any s i h1 h2 w)
 have HBM:=hid (fun i k h1 h2=>bit_main hB (nb s) i k h1 h2)
 have HM:Hid (8*s.size/b≤256∧cnt b (great b s.size)≤13):=hid ⟨by rcases hB with rfl | rfl | rfl | rfl<;> omega,cnt_le hB (great_le hB hn2)⟩
 have hb8:b≤8:=by rcases hB with rfl | rfl | rfl | rfl<;> omega
 have hbz:0<b:=hB.pos
 have HB0:=hid hB
 have hP:2 ^ b≤256:=by rcases hB with rfl | rfl | rfl | rfl<;> decide
 have hP1:1≤2 ^ b:=Nat.two_pow_pos b
 have HLB:Hid (last b=2 ^ b - 1):=rfl
 have HDL:Hid ((mainD b (nb s)).length=8*s.size/b):=hid (by rw [mainD_length hB,nb_length])
 have HDLT:Hid (∀x ∈ mainD b (nb s),x<2 ^ b):=hid (mainD_lt b (nb s))
 have HCS:Hid (∀l:List Nat,csum b l≤l.length*255):=hid (fun l=>by
  have h:=csum_le b l
  have h2:=last_le hB
  exact Nat.le_trans h (Nat.mul_le_mul_left _ h2))
 have HQ12:Hid (∀j,j<cnt b (great b s.size)→b*j≤12):=hid (fun j hj=>by
  have h1:=(cnt_lt hbz (great_ne hB hn) j).1 hj
  have h2:=great_le hB hn2
  refine Nat.le_of_not_lt fun h=> ?_
  have h3:2 ^ 13≤2 ^ (b*j):=Nat.pow_le_pow_right (by decide) h
  omega)
 have HIB:Hid (∀i,i<8*s.size/b→i*b+b≤8*s.size):=hid (fun i hi=>by
  have h1:(i+1)*b≤8*s.size:=by
   calc (i+1)*b≤8*s.size/b*b:=Nat.mul_le_mul_right _ hi
    _≤8*s.size:=Nat.div_mul_le_self _ _
  rw [Nat.add_mul,Nat.one_mul] at h1
  exact h1)
 have HDG:Hid (One.digits b (nb s)=mainD b (nb s)++dig b (cnt b (great b s.size)) (csum b (mainD b (nb s)))):=hid (by unfold One.digits;rw [nb_length])
 have HNL:=hid (nb_length s)
 obtain ⟨DM,hDM⟩:=ex_eq (mainD b (nb s))
 rw [hDM] at HBM HDL HDLT HDG
 obtain ⟨DG,hDGe⟩:=ex_eq (One.digits b (nb s))
 rw [hDGe] at HDG ⊢
 obtain ⟨m,hm⟩:=ex_eq (8*s.size/b)
 obtain ⟨C,hC⟩:=ex_eq (cnt b (great b s.size))
 rw [hm] at HM HDL HIB
 rw [hC] at HM HDG HQ12
 obtain ⟨P,hPe⟩:=ex_eq (2 ^ b)
 rw [hPe] at HBA hP hP1 HLB HDLT
 have HPE:=hid hPe
 have HME:=hid hm
 have HCE0:=hid hC
 have hm2:m≤256:=HM.o.1
 have hC13:C≤13:=HM.o.2
 clear hDM hDGe hm hC hPe hB
 obtain ⟨i0,hi0,hz0,hz1,hz2⟩:=info_parts Tryz.info3
 have FI:=hid hi0
 have FZ0:=hid hz0
 have FZ1:=hid hz1
 have FZ2:=hid hz2
 clear hi0 hz0 hz1 hz2
 go_enter Tryz.func252,Tryz.ntmps252
 go_upto_region 1 with fail
 refine wp_over (fun W=>Hid (W.heap[w.heap.size]? =some (.cells #[.int .i64 (b:Int),.int .i64 (s.size:Int)] 261 (0,0)))∧Hid (Below w.heap.size w W)) ⟨heap_alloc_new _ _,(Below.refl _ _).alloc (Nat.le_refl _) _⟩ ?_
 rintro W ⟨HG,HB⟩
 obtain ⟨N,hN⟩:=ex_eq w.heap.size
 rw [hN] at HG HB ⊢
 have HN:=hid hN
 clear hN
 have HWN:Hid (N+1≤W.heap.size):=hid (gS HG.o).1
 have HCE:Hid (∀V,Below (N+1) W V→V.cell? ⟨N,0,none⟩=some (.int .i64 (b:Int))∧V.cell? ⟨N,1,none⟩=some (.int .i64 (s.size:Int))):=hid (fun V h=>by
  have hg:=(h.block N (Nat.lt_succ_self N)).trans HG.o
  exact ⟨cr hg,cr hg⟩)
 have HST:Hid (∀V V',Below (N+1) W V→Below V.heap.size V V'→Below (N+1) W V'):=hid (fun V V' h h'=>h.trans (h'.mono (by have:=h.size;have:=HWN.o;omega)))
 have HOK:Hid (∀V V' (x:Value) (n:Nat) (l:List Value),V.ownsRow (N+1) 3 1 x n l→Below V.heap.size V V'→V'.ownsRow (N+1) 3 1 x n l):=hid (fun V V' x n l h h'=>ownsRow_keep h (Chg.of_below (M:=fun _ _=>False) h') (fun _ _ _ h=>h))
 go_wp2_with fail
 go_loopw [5,6,7] (fun x y z wr=> ∃(i:Nat) (cur:List Nat),i≤m∧z= .int .i64 (i:Int)∧Hid (cur=DM.take i)∧(∃cs:Nat,y= .int .i64 (cs:Int)∧Hid (cs=csum b cur))∧Hid (wr.ownsRow (N+1) 3 1 x cur.length (natV cur))∧Hid (Below (N+1) W wr)) (fun _ _ z _=>m - (intOf z).toNat)
 case atStart=>exact ⟨0,[],by omega,rfl,rfl,⟨0,rfl,rfl⟩,⟨rfl,.inl ⟨rfl,rfl⟩⟩,Below.refl _ _⟩
 case round=>
  obtain ⟨i,cur,hi,rfl,HCU,⟨cs,rfl,HCSU⟩,HOW,HBE⟩:=hrel
  have HCL:Hid (cur.length≤256):=hid (by rw [HCU.o,List.length_take];omega)
  have hcs:cs≤65280:=by rw [HCSU.o];have:=HCS.o cur;have:=HCL.o;omega
  rename World=>wa
  obtain ⟨c0,c1⟩:=HCE.o wa HBE.o
  by_cases hlt:i<m
  ·have hki:(i:Int)<(m:Int):=by omega
   go_upto_region 6 with (first
    | (with_reducible refine (HMA.o _).mono ?_
       rintro e w2 ⟨m',rfl,hm',h2⟩
       rw [HME.o] at hm'
       have hm3:=hm'.symm
       subst hm3
       have H2:=hid (HST.o _ _ HBE.o h2)
       have HO2:=hid (HOK.o _ _ _ _ _ HOW.o h2)
       clear h2 c0 c1))
   have hD:DM.getD i 0<P:=HDLT.o _ (getD_mem _ _ _ (by rw [HDL.o];exact hlt))
   have HBK:Hid (∀k,k<b→bitAt (nb s) (i*b+k)=DM.getD i 0/2 ^ (b - 1 - k) % 2):=hid (fun k hk=>HBM.o i k (by rw [HNL.o,HME.o];exact hlt) hk)
   have HTK:Hid (DM.take (i+1)=cur++[DM.getD i 0]):=hid (by
    rw [List.take_add_one,lE (by rw [HDL.o];exact hlt),HCU.o,lD,lE (by rw [HDL.o];exact hlt)];rfl)
   obtain ⟨D,hDe⟩:=ex_eq (DM.getD i 0)
   rw [hDe] at hD HBK HTK
   clear hDe
   obtain ⟨ib,hib⟩:=ex_eq (i*b)
   have hibi:(i:Int)*(b:Int)=(ib:Int):=by rw [← Int.natCast_mul,hib]
   have hib2:ib+b≤8*s.size:=by rw [← hib];exact HIB.o i hlt
   rw [hib] at HBK
   clear hib
   clear hi
   go_upto_region 8 with fail
   go_loopw [8,9] (fun x8 x9 wr=> ∃(k d:Nat),k≤b∧x9= .int .i64 (k:Int)∧x8= .int .i64 (d:Int)∧Hid (d=D/2 ^ (b - k))∧Hid (Below w2.heap.size w2 wr)) (fun _ x9 _=>b - (intOf x9).toNat)
   case atStart=>exact ⟨0,0,by omega,rfl,rfl,hid (by rw [Nat.sub_zero,HPE.o,Nat.div_eq_of_lt hD]),Below.refl _ _⟩
   case round=>
    obtain ⟨k,d,hk,rfl,rfl,HDK,HB2⟩:=hrel
    have HBE2:=hid (HST.o _ _ H2.o HB2.o)
    have HO3:=hid (HOK.o _ _ _ _ _ HO2.o HB2.o)
    rename World=>wb
    obtain ⟨c0,c1⟩:=HCE.o wb HBE2.o
    have hd:d<256:=by
     rw [HDK.o]
     exact Nat.lt_of_le_of_lt (Nat.div_le_self _ _) (by omega)
    by_cases hkb:k<b
    ·have hkbi:(k:Int)<(b:Int):=by omega
     obtain ⟨idx,hidx⟩: ∃n,ib+k=n:=⟨_,rfl⟩
     have hidxi:(ib:Int)+(k:Int)=(idx:Int):=by omega
     have HBT0:=HBI.o idx (by omega) (by omega)
     have hbk:=HBK.o k hkb
     rw [hidx] at hbk
     rw [hbk] at HBT0
     have HTB:=hid (top_bits D b k hkb)
     have hT:D/2 ^ (b - 1 - k) % 2≤1:=by omega
     obtain ⟨T,hTe⟩:=ex_eq (D/2 ^ (b - 1 - k) % 2)
     rw [hTe] at HBT0 HTB hT
     have HBT:=hid HBT0
     clear HBT0 hbk hTe hidx
     go_wp2_with (first
      | (with_reducible refine (HBT.o _).mono ?_
         rintro e w3 ⟨rfl,rfl⟩))
     go_roundw
     case rel=>exact ⟨k+1,2*d+T,hkb,by go_num,by go_num,hid (by rw [HDK.o];exact HTB.o),HB2.o⟩
     case measure=>simp [intOf];omega
    ·have hkbi: ¬(k:Int)<(b:Int):=by omega
     have hdD:d=D:=by rw [HDK.o,show b - k=0 by omega];simp
     subst hdD
     go_upto_region 12 with (first
      | (at_builtin
         refine wpList_append_own _ rfl _ _ 81 rfl (N+1) 3 i0 (.int .i64 0) 1 8 Tryz.underlying81 FI.o FZ0.o FZ1.o FZ2.o rfl (by decide) _ _ _ rfl (HO3.o.alloc _) ⟨wb.heap.size,0,none⟩ 1 1 [.int .i64 (d:Int)] rfl rfl (cell_one_new _ _ _) (by simp [Value.oneCell']) (by have:=HCL.o;unfold maxLen;omega) (by have:=HCL.o;omega) (by have:=HBE2.o.size;have:=HWN.o;simp;omega) ?_
         intro v6 w6 hown6 hgr6 _
         have HO6:Hid (w6.ownsRow (N+1) 3 1 v6 (cur.length+1) (natV (cur++[d]))):=by rw [natV_app];exact hown6
         have HC6:Hid (Chg (fun q _=>N+1≤q) wb w6):=(Chg.alloc1 wb _).trans (Chg.of_grown hgr6 (fun q _ e=>(HO3.o.lt q e).1))
         clear hown6 hgr6))
     have HB6:Hid (Below (N+1) W w6):=hid (HBE2.o.trans (HC6.o.below (by have:=HBE2.o.size;have:=HWN.o;omega) (fun q i hq h=>by omega)))
     clear c0 c1
     obtain ⟨c0,c1⟩:=HCE.o w6 HB6.o
     go_wp2_with (first
      | (with_reducible refine (HBA.o _).mono ?_
         rintro e w7 ⟨rfl,h7⟩
         have H7:=hid h7
         have HB7:=hid (HST.o _ _ HB6.o h7)
         clear h7 c0 c1))
     go_roundw
     case rel=>
      refine ⟨i+1,cur++[d],hlt,by go_num,hid (by rw [HTK.o]),⟨cs+(P - 1 - d),by go_num,?_⟩,?_,HB7.o⟩
      ·show _=_
       rw [csum_app,HCSU.o,HLB.o]
      ·have h:=HOK.o _ _ _ _ _ HO6.o H7.o
       rw [show (cur++[d]).length=cur.length+1 by rw [List.length_append];rfl]
       exact h
     case measure=>simp [intOf];omega
  ·have hki: ¬(i:Int)<(m:Int):=by omega
   have HFU:Hid (cur=DM):=hid (by rw [HCU.o,List.take_of_length_le (by rw [HDL.o];omega)])
   go_upto_region 14 with (first
    | (with_reducible refine (HMA.o _).mono ?_
       rintro e w2 ⟨m',rfl,hm',h2⟩
       rw [HME.o] at hm'
       have hm3:=hm'.symm
       subst hm3
       have H2:=hid (HST.o _ _ HBE.o h2)
       have HO2:=hid (HOK.o _ _ _ _ _ HOW.o h2)
       clear h2 c0 c1
       obtain ⟨c0,c1⟩:=HCE.o w2 H2.o)
    | (with_reducible refine (HCK.o _).mono ?_
       rintro e w3 ⟨c',rfl,hc',h3⟩
       rw [HCE0.o] at hc'
       have hc3:=hc'.symm
       subst hc3
       have H3:=hid (HST.o _ _ H2.o h3)
       have HO3:=hid (HOK.o _ _ _ _ _ HO2.o h3)
       clear h3 c0 c1))
   go_loopw [5,10] (fun x y wr=> ∃(j:Nat) (pre:List Nat) (yi:Int),y= .int .i64 yi∧j≤C∧Hid (yi=(j:Int) - 1)∧Hid (pre++dig b j cs=dig b C cs)∧Hid (wr.ownsRow (N+1) 3 1 x (cur++pre).length (natV (cur++pre)))∧Hid (Below (N+1) W wr)) (fun _ y _=>(intOf y+1).toNat)
   case atStart=>exact ⟨C,[],(C:Int) - 1,by go_num,Nat.le_refl _,rfl,rfl,by rw [List.append_nil];exact HO3.o,H3.o⟩
   case round=>
    obtain ⟨j,pre,yi,rfl,hj,HY,HPR,HOWx,HBEx⟩:=hrel
    have HPL:Hid (pre.length+j=C):=hid (by have:=congrArg List.length HPR.o;rw [List.length_append,dig_length,dig_length] at this;exact this)
    have HCL2:Hid ((cur++pre).length≤270):=hid (by rw [List.length_append];have:=HPL.o;have:=HCL.o;omega)
    rename World=>wc
    cases j with
    | zero=>
      have hy:yi= -1:=HY.o
      subst hy
      have HFIN:Hid (cur++pre=DG):=hid (by
       have h:=HPR.o
       rw [dig,List.append_nil] at h
       rw [h,HDG.o,HCSU.o,HFU.o])
      go_wp2_with fail
      go_ret
      refine ⟨_,DG.length,rfl,rfl,?_,?_⟩
      ·rw [← HFIN.o,HN.o];exact ownsRow_base HOWx.o (Nat.le_succ N)
      ·rw [HN.o];exact HB.o.trans (HBEx.o.mono (Nat.le_succ N))
    | succ j=>
      have hy:yi=(j:Int):=by rw [HY.o];omega
      subst hy
      have hq12:b*j≤12:=HQ12.o j (by omega)
      have HDD:Hid (dig b (j+1) cs=(cs/2 ^ (b*j) % P)::dig b j cs):=hid (by rw [dig,HPE.o])
      have HPK:Hid (∀k,k≤j→2 ^ (b*k)≤4096):=hid (fun k hk=>by
       have:b*k≤b*j:=Nat.mul_le_mul_left _ hk
       calc 2 ^ (b*k)≤2 ^ 12:=Nat.pow_le_pow_right (by decide) (by omega)
        _≤4096:=by decide)
      have HPS:Hid (∀c,2 ^ (b*(c+1))=2 ^ (b*c)*P):=hid (fun c=>by rw [Nat.mul_add,Nat.mul_one,Nat.pow_add,HPE.o])
      clear hq12
      go_upto_region 18 with fail
      go_loopw [11,12] (fun x y wr=> ∃(k p:Nat),k≤j∧y= .int .i64 (k:Int)∧x= .int .i64 (p:Int)∧Hid (p=2 ^ (b*k))∧Hid (Below wc.heap.size wc wr)) (fun _ y _=>j - (intOf y).toNat)
      case atStart=>exact ⟨0,1,by omega,rfl,rfl,by show _=_;simp,Below.refl _ _⟩
      case round=>
       obtain ⟨k,p,hk,rfl,rfl,HPP,HBp⟩:=hrel
       have hp4:p≤4096:=by rw [HPP.o];exact HPK.o k hk
       have hp0: ¬p=0:=by rw [HPP.o];have:=Nat.two_pow_pos (b*k);omega
       have HBEp:=hid (HST.o _ _ HBEx.o HBp.o)
       have HOp:=hid (HOK.o _ _ _ _ _ HOWx.o HBp.o)
       rename World=>wd
       obtain ⟨c0,c1⟩:=HCE.o wd HBEp.o
       by_cases hkj:k<j
       ·have hkji:(k:Int)<(j:Int):=by omega
        have hr3:p*P=2 ^ (b*(k+1)):=by rw [HPS.o,← HPP.o]
        have hr4:p*P≤4096:=by rw [hr3];exact HPK.o (k+1) hkj
        have hri:(p:Int)*(P:Int)=((p*P:Nat):Int):=by rw [Int.natCast_mul]
        obtain ⟨r,hr⟩:=ex_eq (p*P)
        rw [hr] at hri hr4 hr3
        have HR3:=hid hr3
        clear hr3 hr
        go_wp2_with (first
         | (with_reducible refine (HBA.o _).mono ?_
            rintro e w4 ⟨rfl,h4⟩
            have H4:=hid (HBp.o.trans (h4.mono HBp.o.size))
            clear h4))
        go_roundw
        case rel=>exact ⟨k+1,r,hkj,by go_num,by go_num,HR3.o,H4.o⟩
        case measure=>simp [intOf];omega
       ·have hkje:k=j:=by omega
        subst hkje
        have hkji: ¬(k:Int)<(k:Int):=by omega
        have hY:cs/p≤65280:=Nat.le_trans (Nat.div_le_self _ _) hcs
        have HDe:Hid (cs/p % P=cs/2 ^ (b*k) % P):=hid (by rw [HPP.o])
        have hd1:(cs:Int).tdiv (p:Int)=((cs/p:Nat):Int):=by rw [Int.tdiv_eq_ediv_of_nonneg (by omega),Int.natCast_ediv]
        have hd2:(cs:Int)/(p:Int)=((cs/p:Nat):Int):=by rw [Int.natCast_ediv]
        obtain ⟨Y,hYe⟩:=ex_eq (cs/p)
        rw [hYe] at hY HDe hd1 hd2
        have hwY:IntKind.i64.wrap (Y:Int)=(Y:Int):=by rw [IntKind.wrap_i64];omega
        have hP0: ¬P=0:=by omega
        have hm1:(Y:Int).tmod (P:Int)=((Y % P:Nat):Int):=by rw [Int.tmod_eq_emod_of_nonneg (by omega),Int.natCast_emod]
        have hm3:(Y:Int) % (P:Int)=((Y % P:Nat):Int):=by rw [Int.natCast_emod]
        have hD256:Y % P<256:=Nat.lt_of_lt_of_le (Nat.mod_lt _ (by omega)) hP
        obtain ⟨D,hDe⟩:=ex_eq (Y % P)
        rw [hDe] at hm1 hm3 HDe hD256
        have hwD:IntKind.i64.wrap (D:Int)=(D:Int):=by rw [IntKind.wrap_i64];omega
        clear hYe hDe
        go_upto_region 21 with fail
        refine Kit.wp_region_plan (fun X=>X.cell? ⟨N,0,none⟩=some (.int .i64 (b:Int))∧X.cell? ⟨N,1,none⟩=some (.int .i64 (s.size:Int))) [(true,0),(true,1),(true,2),(true,3),(true,4),(false,5),(true,6),(false,7),(false,8),(false,9)] (by kernel_rfl) (by kernel_rfl) (by kernel_rfl) (by kernel_rfl) ⟨c0,c1⟩ ?_
        repeat (refine Kit.plan_head (by rfl) (.inl ⟨by rfl,fun w' hS=>by (dsimp only at hS);go_simp;(try with_reducible rfl)⟩) ?_;simp only [Act.put,List.setIfInBounds_toArray,List.set_cons_zero,List.set_cons_succ])
        clear c0 c1
        refine Kit.plan_op (by rfl) rfl fun K hK=> ?_
        go_simp
        go_at_call 295
        refine (HBA.o _).mono ?_
        rintro e w5 ⟨rfl,h5⟩
        have HBE5:=hid (HST.o _ _ HBEp.o (show Below wd.heap.size wd w5 from (Below.refl _ wd).drew.trans h5))
        have HOW5:=hid (HOK.o _ _ _ _ _ HOp.o (show Below wd.heap.size wd w5 from (Below.refl _ wd).drew.trans h5))
        clear h5
        refine hK _ _ (HCE.o w5 HBE5.o) ?_
        clear hK K
        repeat (refine Kit.plan_head (by rfl) (.inl ⟨by rfl,fun w' hS=>by (dsimp only at hS);go_simp;(try with_reducible rfl)⟩) ?_;simp only [Act.put,List.setIfInBounds_toArray,List.set_cons_zero,List.set_cons_succ])
        refine Kit.plan_op (by rfl) rfl fun K hK=> ?_
        go_simp
        have HBE6:Hid (Below (N+1) W (w5.alloc (.cells #[.int .i64 (D:Int)] 3))):=hid (HBE5.o.alloc (by have:=HBE5.o.size;have:=HWN.o;omega) _)
        refine hK _ _ (HCE.o _ HBE6.o) ?_
        clear hK K
        refine Kit.plan_op (by rfl) rfl fun K hK=> ?_
        refine wp_append_src (.tmp 63) (.tmp 70) 81 (by rfl) (N+1) 3 i0 (.int .i64 0) 1 8 Tryz.underlying81 FI.o FZ0.o FZ1.o FZ2.o rfl (by decide) _ (cur++pre).length (natV (cur++pre)) (by rfl) (HOW5.o.alloc _) (some ⟨w5.heap.size,0,none⟩) 1 1 [.int .i64 (D:Int)] (by rfl) (.inr ⟨rfl,_,rfl,cell_one_new _ _ _⟩) (by simp [Value.oneCell']) (by have:=HCL2.o;unfold maxLen;omega) (by have:=HCL2.o;omega) (by have:=HBE5.o.size;have:=HWN.o;simp;omega) ?_
        intro v6 w6 hown6 hgr6
        have HO6:Hid (w6.ownsRow (N+1) 3 1 v6 ((cur++pre).length+1) (natV (cur++pre++[D]))):=by rw [natV_app];exact hown6
        have HC6:Hid (Chg (fun q _=>N+1≤q) w5 w6):=(Chg.alloc1 w5 _).trans (Chg.of_grown hgr6 (fun q _ e=>(HOW5.o.lt q e).1))
        clear hown6 hgr6
        have HB6:Hid (Below (N+1) W w6):=hid (HBE5.o.trans (HC6.o.below (by have:=HBE5.o.size;have:=HWN.o;omega) (fun q i hq h=>by omega)))
        refine hK _ _ (HCE.o _ HB6.o) ?_
        clear hK K
        simp only [Act.put,List.setIfInBounds_toArray,List.set_cons_zero,List.set_cons_succ]
        refine Kit.plan_op (by rfl) rfl fun K hK=> ?_
        go_simp
        refine hK _ _ (HCE.o _ HB6.o) (Kit.plan_done ?_)
        clear hK K
        (try simp only [Act.put,List.setIfInBounds_toArray,List.set_cons_zero,List.set_cons_succ])
        go_wp2_with fail
        go_roundw
        case rel=>
         refine ⟨k,pre++[D],(k:Int) - 1,by go_num,by omega,rfl,?_,?_,HB6.o⟩
         ·have h:=HPR.o
          rw [HDD.o,← HDe.o] at h
          show _=_
          rw [List.append_assoc];exact h
         ·rw [← List.append_assoc,show (cur++pre++[D]).length=(cur++pre).length+1 by rw [List.length_append];rfl]
          exact HO6.o
        case measure=>simp [intOf]
end Go.Proofs.YtndlihclgdkpaaaGreatDoor
namespace Go.Proofs.YtndlihclgdkpaaaGreatDoor
namespace Kit
section
variable {P:Program} {md:Region.Mode} {Q:Exit→Act→World→Prop} {S:World→Prop}
def gplan (P:Program) (Q:Exit→Act→World→Prop) (S:World→Prop) (l:List Oper):List (Bool × Nat)→Act→World→Prop
 | [],a,w=>Q .normal a w
 | (true,i)::rest,a,w=> ∃o,l[i]? =some o∧ ∃v,YieldsIf P l.toArray S o v a∧gplan P Q S l rest (a.put o.dst v) w
 | (false,i)::rest,a,w=> ∃o,l[i]? =some o∧Region.wanted o (yielded l.toArray a.tmps)=true∧ ∀K:Act→World→Prop,(∀a w,S w→gplan P Q S l rest a w→K a w)→o.wp P a w K Q
def gplanOk (md:Region.Mode) (ops:Array Oper):List (Bool × Nat)→Array Bool→Bool
 | [],listed=>(Region.ready md ops listed).isEmpty
 | (true,i)::rest,listed=>Region.free md ops listed i && (Region.ready md ops listed).contains i && gplanOk md ops rest (listed.setIfInBounds i true)
 | (false,i)::rest,listed=>decide (Region.ready md ops listed=[i]) && gplanOk md ops rest (listed.setIfInBounds i true)
theorem any_of_gplan {l:List Oper} (hsel:Region.noSelect l.toArray=true) (hQ: ∀c a d v w,Q (.panic c) (a.put d v) w→Q (.panic c) a w):
    ∀(ps:List (Bool × Nat)) (listed:Array Bool) (a:Act) (w:World),S w→gplanOk md l.toArray ps listed=true→gplan P Q S l ps a w→wpAnyH P md l.toArray Q S ps.length listed a w
 | [],listed,a,w,_,hB,h=>by
   simp only [gplanOk,List.isEmpty_iff] at hB
   exact wpAnyH_done hB h 0
 | (true,i)::rest,listed,a,w,hS,hB,h=>by
   simp only [gplanOk,Bool.and_eq_true] at hB
   obtain ⟨o,ho,v,hy,hr⟩:=h
   exact wpAnyH_take (by simpa using ho) hsel hB.1.1 hB.1.2 (fun c a w=>hQ c a _ v w) hy hS (any_of_gplan hsel hQ rest _ _ _ hS hB.2 hr)
 | (false,i)::rest,listed,a,w,hS,hB,h=>by
   simp only [gplanOk,Bool.and_eq_true,decide_eq_true_eq] at hB
   obtain ⟨o,ho,hg,hw⟩:=h
   refine wpAnyH_all hB.1 (by simp) ?_
   intro j hj
   have hji:j=i:=by simpa using hj
   subst hji
   have ho':l.toArray[j]? =some o:=by simpa using ho
   unfold wpOp
   rw [ho']
   show if Region.wanted o (yielded l.toArray a.tmps)=true then _ else _
   rw [if_pos hg]
   exact .inl (hw _ fun a w hS hc=>⟨hS,any_of_gplan hsel hQ rest _ a w hS hB.2 hc⟩)
theorem wp_region_gplan {id:Nat} {a:Act} {w:World} {l:List Oper} (S:World→Prop) (ps:List (Bool × Nat)) (hm:P.follows .mixedOrders=true) (hsel:Region.noSelect l.toArray=true) (hn:l.length=ps.length)
    (hB:gplanOk .any l.toArray ps (Array.replicate l.length false)=true) (hS:S w.drew)
    (h:gplan P (NoPanic Q) S l ps a w.drew):(Code.region id l.toArray true).wp P Q a w:=by
 refine wp_region_noPanic (wp_region_held (S:=S) hm ?_)
 have H:=any_of_gplan hsel (fun _ _ _ _ _ h=>h) ps _ _ _ hS hB h
 rw [← hn] at H
 have e:l.toArray.size=l.length:=List.size_toArray
 rw [e]
 exact H
theorem gplan_done {l:List Oper} {a:Act} {w:World} (h:Q .normal a w):gplan P (NoPanic Q) S l [] a w:=h
theorem gplan_head {l:List Oper} {a:Act} {w:World} {i:Nat} {rest:List (Bool × Nat)} {o:Oper} {v:Value} (ho:l[i]? =some o) (hy:YieldsIf P l.toArray S o v a) (h:gplan P Q S l rest (a.put o.dst v) w):gplan P Q S l ((true,i)::rest) a w:=⟨o,ho,v,hy,h⟩
theorem ghd {l:List Oper} {a a':Act} {w:World} {i:Nat} {rest:List (Bool × Nat)} {o:Oper} {v:Value} (ho:l[i]? =some o:=by rfl) (hy:YieldsIf P l.toArray S o v a:=by first | exact .inr ⟨by rfl,rfl⟩ | exact .inl ⟨by rfl,fun w' hS=>by (dsimp only at hS);go_simp;(try with_reducible rfl)⟩) (ha:a.put o.dst v=a':=by (try simp only [Act.put,List.setIfInBounds_toArray,List.set_cons_zero,List.set_cons_succ]);rfl) (h:gplan P Q S l rest a' w):gplan P Q S l ((true,i)::rest) a w:=by subst ha;exact gplan_head ho hy h
theorem gdn {l:List Oper} {a a':Act} {w:World} (ha:a=a':=by (try simp only [Act.put,List.setIfInBounds_toArray,List.set_cons_zero,List.set_cons_succ]);rfl) (h:Q .normal a' w):gplan P (NoPanic Q) S l [] a w:=by subst ha;exact gplan_done h
theorem gplan_op {l:List Oper} {a:Act} {w:World} {i:Nat} {rest:List (Bool × Nat)} {o:Oper} (ho:l[i]? =some o) (hg:Region.wanted o (yielded l.toArray a.tmps)=true) (h: ∀K:Act→World→Prop,(∀a w,S w→gplan P Q S l rest a w→K a w)→o.wp P a w K Q):gplan P Q S l ((false,i)::rest) a w:=⟨o,ho,hg,h⟩
end
end Kit
end Go.Proofs.YtndlihclgdkpaaaGreatDoor
namespace Go.Proofs.YtndlihclgdkpaaaGreatDoor
open Go.RowKit
open Kit (Chg)
open Go.Proofs.YtndlihclgdkpaaaGreatDoor.One

theorem own_empty {w:World} {base:Nat} (h:base≤w.heap.size):(w.alloc (.cells #[] 5)).ownsRow base 5 1 (.slice (some ⟨w.heap.size,0,none⟩) 0 0) 0 (bvals []):=
 ⟨rfl,.inr ⟨w.heap.size,0,#[],rfl,h,heap_alloc_new _ _,Nat.le_refl _,by unfold maxLen;omega,rfl,rfl⟩⟩
theorem own_nil {w:World} {base e:Nat}:w.ownsRow base e 1 (.slice none 0 0) 0 []:=⟨rfl,.inl ⟨rfl,rfl⟩⟩
section
variable {ops:Array Oper} {rest:List Oper} {o:Oper} {a:Act} {Q:Exit→Act→World→Prop}
theorem app_byte {w0:World} (hgd:o.guard=none) (s x:Operand) (ho:o.op= .call { callee:= .builtin .append,args:= #[s,x],argTypes:= #[52, 52] })
    (base:Nat) (v:Value) (L:Nat) (cur:List Nat) (hs:a.eval s=v) (hown:w0.ownsRow base 5 1 v L (bvals cur)) (hb:base≤w0.heap.size) (hL:L≤1000000000000)
    (E:Int) (b:Nat) (hE:E=(b:Int)) (c:Nat) (hx:a.eval x= .slice (some ⟨w0.heap.size,0,none⟩) 1 c)
    (h: ∀v' w',w'.ownsRow base 5 1 v' (L+1) (bvals (cur++[b]))→Below base w0 w'→wpList Tryz.prog ops Q rest (a.put o.dst v') w'):wpList Tryz.prog ops Q (o::rest) a (w0.alloc (.cells #[.int .u8 E] 5)):=by
 obtain ⟨i0,hi,hz0,hz1,hz2⟩:=info_parts Tryz.info5
 refine wpList_append_own _ hgd s x 52 ho base 5 i0 (.int .u8 0) 1 1 Tryz.underlying52 hi hz0 hz1 hz2 rfl (by decide) v L (bvals cur) hs (hown.alloc _) ⟨w0.heap.size,0,none⟩ 1 c [.int .u8 E] hx rfl (cell_one_new _ _ _) (by simp [Value.oneCell']) (by unfold maxLen;omega) (by omega) (by simp;omega) ?_
 intro v' w4 hown4 hgr4 _
 refine h v' w4 (by rw [bvals_snoc,← hE];exact hown4) ?_
 exact ((Chg.alloc1 w0 _).trans (Chg.of_grown hgr4 (fun q _ e=>(hown.lt q e).1)):Chg (fun q _=>base≤q) w0 w4).below hb (fun q i hq h=>by omega)
theorem app_bytes {w0:World} (hgd:o.guard=none) (s x:Operand) (ho:o.op= .call { callee:= .builtin .append,args:= #[s,x],argTypes:= #[52, 52] })
    (base:Nat) (v:Value) (L:Nat) (cur:List Nat) (hs:a.eval s=v) (hown:w0.ownsRow base 5 1 v L (bvals cur)) (hb:base≤w0.heap.size) (hL:L≤1000000000000)
    (ao:Option Addr) (m c:Nat) (xs:List Nat) (hm:xs.length=m) (hm2:m≤1000000000000) (hx:a.eval x= .slice ao m c) (hB:BytesAt w0 ao xs) (hnil:ao=none→c=0)
    (h: ∀v' w',w'.ownsRow base 5 1 v' (L+m) (bvals (cur++xs))→Below base w0 w'→wpList Tryz.prog ops Q rest (a.put o.dst v') w'):wpList Tryz.prog ops Q (o::rest) a w0:=by
 obtain ⟨i0,hi,hz0,hz1,hz2⟩:=info_parts Tryz.info5
 subst hm
 refine wpList_append_src hgd s x 52 ho base 5 i0 (.int .u8 0) 1 1 Tryz.underlying52 hi hz0 hz1 hz2 rfl (by decide) v L (bvals cur) hs hown ao xs.length c (bvals xs) hx (hB.src c hnil) (bvals_one _) (by unfold maxLen;omega) (by omega) hb ?_
 intro v' w4 hown4 hgr4
 refine h v' w4 (by rw [bvals_append];exact hown4) ?_
 exact (Chg.of_grown hgr4 (fun q _ e=>(hown.lt q e).1):Chg (fun q _=>base≤q) w0 w4).below hb (fun q i hq h=>by omega)
theorem app_str {w0:World} (hgd:o.guard=none) (s x:Operand) (ho:o.op= .call { callee:= .builtin .append,args:= #[s,x],argTypes:= #[43, 43] })
    (base:Nat) (v:Value) (L:Nat) (cur:List ByteArray) (hs:a.eval s=v) (hown:w0.ownsRow base 9 1 v L (strV cur)) (hb:base≤w0.heap.size) (hL:L≤1000000000000)
    (b:ByteArray) (c:Nat) (hx:a.eval x= .slice (some ⟨w0.heap.size,0,none⟩) 1 c)
    (h: ∀v' w',w'.ownsRow base 9 1 v' (L+1) (strV (cur++[b]))→Below base w0 w'→wpList Tryz.prog ops Q rest (a.put o.dst v') w'):wpList Tryz.prog ops Q (o::rest) a (w0.alloc (.cells #[.string b] 9)):=by
 obtain ⟨i0,hi,hz0,hz1,hz2⟩:=info_parts Tryz.info9
 refine wpList_append_own _ hgd s x 43 ho base 9 i0 (.string ByteArray.empty) 1 16 Tryz.underlying43 hi hz0 hz1 hz2 rfl (by decide) v L (strV cur) hs (hown.alloc _) ⟨w0.heap.size,0,none⟩ 1 c [.string b] hx rfl (cell_one_new _ _ _) (by simp [Value.oneCell']) (by unfold maxLen;omega) (by omega) (by simp;omega) ?_
 intro v' w4 hown4 hgr4 _
 refine h v' w4 (by rw [strV_app];exact hown4) ?_
 exact ((Chg.alloc1 w0 _).trans (Chg.of_grown hgr4 (fun q _ e=>(hown.lt q e).1)):Chg (fun q _=>base≤q) w0 w4).below hb (fun q i hq h=>by omega)
end
theorem own_later {w w':World} {base e size n:Nat} {v:Value} {xs:List Value} (h:w.ownsRow base e size v n xs) (hb:Below w.heap.size w w'):w'.ownsRow base e size v n xs:=ownsRow_keep h (Chg.of_below (M:=fun _ _=>False) hb) (fun _ _ _ h=>h)
end Go.Proofs.YtndlihclgdkpaaaGreatDoor
namespace Go.Proofs.YtndlihclgdkpaaaGreatDoor
namespace Kit
section
variable {P:Program} {md:Region.Mode} {Q:Exit→Act→World→Prop}
theorem anyH_mono {ops:Array Oper} {S S2:World→Prop} (hS: ∀V,S2 V→S V): ∀(fuel:Nat) (listed:Array Bool) (a:Act) (w:World),wpAnyH P md ops Q S2 fuel listed a w→wpAnyH P md ops Q S fuel listed a w
 | 0,_,_,_,h=>h
 | fuel+1,_,_,_,h=>⟨h.1,fun i hi=>wpOp_mono (fun a' w' h'=>⟨hS _ h'.1,anyH_mono hS fuel _ a' w' h'.2⟩) (h.2 i hi)⟩
def splan (P:Program) (Q:Exit→Act→World→Prop) (l:List Oper):List (Bool × Nat)→(World→Prop)→Act→World→Prop
 | [],_,a,w=>Q .normal a w
 | (true,i)::rest,S,a,w=> ∃o,l[i]? =some o∧ ∃v,YieldsIf P l.toArray S o v a∧splan P Q l rest S (a.put o.dst v) w
 | (false,i)::rest,S,a,w=> ∃o,l[i]? =some o∧Region.wanted o (yielded l.toArray a.tmps)=true∧ ∀K:Act→World→Prop,(∀S2:World→Prop,(∀V,S2 V→S V)→ ∀a w,S2 w→splan P Q l rest S2 a w→K a w)→o.wp P a w K Q
theorem any_of_splan {l:List Oper} (hsel:Region.noSelect l.toArray=true) (hQ: ∀c a d v w,Q (.panic c) (a.put d v) w→Q (.panic c) a w):
    ∀(ps:List (Bool × Nat)) (S:World→Prop) (listed:Array Bool) (a:Act) (w:World),S w→gplanOk md l.toArray ps listed=true→splan P Q l ps S a w→wpAnyH P md l.toArray Q S ps.length listed a w
 | [],S,listed,a,w,_,hB,h=>by
   simp only [gplanOk,List.isEmpty_iff] at hB
   exact wpAnyH_done hB h 0
 | (true,i)::rest,S,listed,a,w,hS,hB,h=>by
   simp only [gplanOk,Bool.and_eq_true] at hB
   obtain ⟨o,ho,v,hy,hr⟩:=h
   exact wpAnyH_take (by simpa using ho) hsel hB.1.1 hB.1.2 (fun c a w=>hQ c a _ v w) hy hS (any_of_splan hsel hQ rest S _ _ _ hS hB.2 hr)
 | (false,i)::rest,S,listed,a,w,hS,hB,h=>by
   simp only [gplanOk,Bool.and_eq_true,decide_eq_true_eq] at hB
   obtain ⟨o,ho,hg,hw⟩:=h
   refine wpAnyH_all hB.1 (by simp) ?_
   intro j hj
   have hji:j=i:=by simpa using hj
   subst hji
   have ho':l.toArray[j]? =some o:=by simpa using ho
   unfold wpOp
   rw [ho']
   show if Region.wanted o (yielded l.toArray a.tmps)=true then _ else _
   rw [if_pos hg]
   exact .inl (hw _ fun S2 hS2 a w hS hc=>⟨hS2 _ hS,anyH_mono hS2 _ _ _ _ (any_of_splan hsel hQ rest S2 _ a w hS hB.2 hc)⟩)
theorem wp_region_splan {id:Nat} {a:Act} {w:World} {l:List Oper} (S:World→Prop) (ps:List (Bool × Nat)) (hm:P.follows .mixedOrders=true) (hsel:Region.noSelect l.toArray=true) (hn:l.length=ps.length)
    (hB:gplanOk .any l.toArray ps (Array.replicate l.length false)=true) (hS:S w.drew)
    (h:splan P (NoPanic Q) l ps S a w.drew):(Code.region id l.toArray true).wp P Q a w:=by
 refine wp_region_noPanic (wp_region_held (S:=S) hm ?_)
 have H:=any_of_splan hsel (fun _ _ _ _ _ h=>h) ps S _ _ _ hS hB h
 rw [← hn] at H
 have e:l.toArray.size=l.length:=List.size_toArray
 rw [e]
 exact H
theorem splan_done {l:List Oper} {S:World→Prop} {a:Act} {w:World} (h:Q .normal a w):splan P (NoPanic Q) l [] S a w:=h
theorem splan_head {l:List Oper} {S:World→Prop} {a:Act} {w:World} {i:Nat} {rest:List (Bool × Nat)} {o:Oper} {v:Value} (ho:l[i]? =some o) (hy:YieldsIf P l.toArray S o v a) (h:splan P Q l rest S (a.put o.dst v) w):splan P Q l ((true,i)::rest) S a w:=⟨o,ho,v,hy,h⟩
theorem splan_op {l:List Oper} {S:World→Prop} {a:Act} {w:World} {i:Nat} {rest:List (Bool × Nat)} {o:Oper} (ho:l[i]? =some o) (hg:Region.wanted o (yielded l.toArray a.tmps)=true) (h: ∀K:Act→World→Prop,(∀S2:World→Prop,(∀V,S2 V→S V)→ ∀a w,S2 w→splan P Q l rest S2 a w→K a w)→o.wp P a w K Q):splan P Q l ((false,i)::rest) S a w:=⟨o,ho,hg,h⟩
end
end Kit
end Go.Proofs.YtndlihclgdkpaaaGreatDoor
