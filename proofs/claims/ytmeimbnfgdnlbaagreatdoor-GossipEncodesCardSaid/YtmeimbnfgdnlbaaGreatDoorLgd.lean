/- The law GossipDecodes. -/
import Derived.Test.YtmeimbnfgdnlbaaGreatDoorRdd
import Derived.Test.YtmeimbnfgdnlbaaGreatDoorGaw
import Derived.Test.YtmeimbnfgdnlbaaGreatDoorOpb
set_option linter.unusedVariables false
set_option linter.unusedSimpArgs false
open Go.Lib (hid)
namespace Go.Proofs.YtmeimbnfgdnlbaaGreatDoor
open Go.ChangeShapes Go.WideShapes Go.ChangeAt Go.RowKit
open Kit (Chg)
open Sha (v)
open Go.Proofs.YtmeimbnfgdnlbaaGreatDoor.One

theorem open_nil {H:Type} {enc:TypeId × Value→H} {W:World} {a:Option Addr} {len cap fuel:Nat} {x:DataW H × List MemPlace}
    (hf:DataW.trod enc Tryz.prog W 0 (fun _=>true) true fuel 29 [.slice a len cap]=some x):a=none→cap=0:=by
 intro e
 rcases DataW.trod_slice Tryz.underlying29 hf with ⟨hcs,_⟩ | ⟨ad,l,c,_,_,_,_,hcs,_⟩
 ·simp at hcs
  exact hcs.2.2
 ·simp at hcs
  rw [e] at hcs
  cases hcs.1
theorem Laid.least {w:World} (h:Laid w):3≤w.heap.size:=by
 have h1: 2 <w.heap.size:=World.block_lt_of_cell? w _ h.pad0
 exact h1
set_option maxRecDepth 100000 in
set_option maxHeartbeats 2000000 in
theorem walk_GossipDecodes (a:Option Addr) (c:Nat) (bs:List Nat) (w:World) (hB:BytesAt w a bs) (hnil:a=none→c=0) (hL:Laid w):
    Calls Tryz.prog 8 #[.slice a bs.length c] w fun e w'=>e= .returned (.bool true)∧Below w.heap.size w w':=by
 have HB:=hid hB
 have HLD:=hid hL
 have HAW:=hid (awake46 w hL hL.least)
 obtain ⟨n,hn⟩:=ex_eq bs.length
 have HN:=hid hn
 have HNIL:=hid hnil
 rw [hn]
 clear hB hL hn hnil
 by_cases hs:n≤1000
 rotate_left
 ·have hgt:(1000:Int)<(n:Int):=by omega
  clear hs
  go_enter Tryz.func8,Tryz.ntmps8
  go_wp2_with (first
   | (go_at_call 9
      (with_reducible refine HAW.o.mono ?_)
      rintro e w2 ⟨rfl,h2⟩
      have H2:=hid h2
      clear h2))
  go_ret
  exact ⟨rfl,H2.o⟩
 have hgt: ¬(1000:Int)<(n:Int):=by omega
 have HDC:=hid (fun w h=>decode_any a n c bs HN.o (by omega) HNIL.o w h)
 obtain ⟨X,hX⟩:=ex_eq (rdEnt bs)
 have HX:=hid hX
 rw [hX] at HDC
 clear hX hs
 go_enter Tryz.func8,Tryz.ntmps8
 go_upto_region 6 with (first
  | (go_at_call 9
     (with_reducible refine HAW.o.mono ?_)
     rintro e w2 ⟨rfl,h2⟩
     have H2:=hid h2
     clear h2)
  | (go_at_call 34
     (with_reducible refine (HDC.o _ (HB.o.later H2.o)).mono ?_)
     rintro e w3 ⟨hout,h3⟩
     have H3:=hid (H2.o.trans (h3.mono H2.o.size))
     clear h3
     rcases hout with ⟨hst,hv,ab,L,cb,rfl,hlen,hby,hnl⟩ | ⟨hno,rfl⟩))
 ·have HST:=hid hst
  have HV:=hid ((validE_iff _).1 hv)
  have HLEN:=hid hlen
  have HBY:=hid hby
  have HNL:=hid hnl
  have HEE:Hid (encE X.ent=bs):=hid (by rw [← HX.o];exact rdEnt_dec HB.o.2.1 (by rw [HX.o];exact hst))
  clear hst hv hlen hby hnl
  obtain ⟨d,q,k,y,b,xp,st⟩:=X
  simp only at HST HV HLEN HBY HEE ⊢
  obtain ⟨z,hz⟩:=ex_eq (strB xp)
  have HVZ:Hid (ValidE ⟨(d:Int),(q:Int),(k:Int),(y:Int),b,z⟩):=hid (by rw [← hz];exact HV.o)
  have HEZ:Hid (encE ⟨(d:Int),(q:Int),(k:Int),(y:Int),b,z⟩=bs):=hid (by rw [← hz];exact HEE.o)
  rw [hz]
  clear hz
  refine wp_over (fun V=>Hid (V.heap[w3.heap.size]? =some (.cells #[.int .i64 (d:Int),.int .i64 (q:Int),.int .i64 (k:Int),.int .i64 (y:Int),.slice ab L cb,.string z] 31 (0,0)))∧Hid (Below w3.heap.size w3 V)) ⟨heap_alloc_new _ _,(Below.refl _ _).alloc (Nat.le_refl _) _⟩ ?_
  rintro V ⟨HG,HVB⟩
  have HEN:=hid (encode_ok d q k y ab L cb z b HLEN.o HNL.o HVZ.o bs HEZ.o V (HBY.o.later HVB.o))
  have H4:=hid (H3.o.trans (HVB.o.mono H3.o.size))
  obtain ⟨c0,c1,c2,c3,c4,c5⟩:=row6 HG.o
  obtain ⟨t,ht⟩:=ex_eq (strB bs)
  have HCV:Hid (∀W ad cap L',bs.length=L'→BytesAt W ad bs→(convert 29 9 (.slice ad L' cap)).run Tryz.prog W= .ok (.string t) W):=hid (fun W ad cap L' h hB=>by subst h;rw [← ht];exact conv_bytes hB cap)
  clear ht
  go_upto_region 9 with (first
   | (go_at_call 32
      (with_reducible refine HEN.o.mono ?_)
      rintro e w5 ⟨ad,L2,cap,rfl,hl,_,hb,_,_,h5⟩
      have H5:=hid (H4.o.trans (h5.mono H4.o.size))
      have hcv1:=HCV.o w5 ad cap L2 hl hb
      have hcv2:=HCV.o w5 a c n HN.o (HB.o.later H5.o)
      clear hl hb h5 c0 c1 c2 c3 c4 c5))
  go_wp2_with fail
  go_ret
  exact ⟨by first | rfl | simp,H5.o⟩
 ·clear hno
  refine wp_over (fun V=>Hid (V.heap[w3.heap.size]? =some (.cells #[.int .i64 0,.int .i64 0,.int .i64 0,.int .i64 0,.slice none 0 0,.string ByteArray.empty] 31 (0,0)))∧Hid (Below w3.heap.size w3 V)) ⟨heap_alloc_new _ _,(Below.refl _ _).alloc (Nat.le_refl _) _⟩ ?_
  rintro V ⟨HG,HVB⟩
  have H4:=hid (H3.o.trans (HVB.o.mono H3.o.size))
  have HZB:BytesAt V none []:=⟨.inl rfl,by simp,by simp⟩
  have HSM:Hid (Calls Tryz.prog 20 #[.agg #[.int .i64 0,.int .i64 0,.int .i64 0,.int .i64 0,.slice none 0 0,.string ByteArray.empty],.agg #[.int .i64 0,.int .i64 0,.int .i64 0,.int .i64 0,.slice none 0 0,.string { data:= #[] }]] V fun e w'=>e= .returned (.bool true)∧Below V.heap.size V w'):=hid (same46_any 0 0 0 0 none 0 0 ByteArray.empty [] rfl 0 0 0 0 none 0 0 ByteArray.empty [] rfl V HZB HZB)
  obtain ⟨c0,c1,c2,c3,c4,c5⟩:=row6 HG.o
  clear HZB
  go_wp2_with (first
   | (go_at_call 20
      (with_reducible refine HSM.o.mono ?_)
      rintro e w5 ⟨rfl,h5⟩
      have H5:=hid (H4.o.trans (h5.mono H4.o.size))
      clear h5))
  go_ret
  exact ⟨rfl,H5.o⟩
end Go.Proofs.YtmeimbnfgdnlbaaGreatDoor
