/- The law ReceiptDecodes. -/
import Derived.Test.YtndlihclgdkpaaaGreatDoorGb
import Derived.Test.YtndlihclgdkpaaaGreatDoorGj
import Derived.Test.YtndlihclgdkpaaaGreatDoorGk
import Derived.Test.YtndlihclgdkpaaaGreatDoorQaw
import Derived.Test.YtndlihclgdkpaaaGreatDoorQde
set_option linter.unusedVariables false
set_option linter.unusedSimpArgs false
open Go.Lib (hid)
namespace Go.Proofs.YtndlihclgdkpaaaGreatDoor
open Go.RowKit
open Kit (Chg)
open Sha (v)
open Go.Proofs.YtndlihclgdkpaaaGreatDoor.One

section
open Go.ChangeShapes Go.WideShapes Go.ChangeAt Go.RowKit
theorem u8_of_wfz {n:Int} (h:(Lit.int .u8 n).wf=true): ∃k:Nat,k<256∧n=(k:Int):=by
 have hb:0≤n∧n<256:=by
  simp [Lit.wf,IntKind.min,IntKind.max,IntKind.bits,IntKind.signed] at h
  omega
 refine ⟨n.toNat,?_,?_⟩<;> omega
theorem open_bytes {H:Type} {enc:TypeId × Value→H} {W:World} {a:Option Addr} {len cap fuel:Nat} {x:DataW H × List MemPlace}
    (hf:DataW.trod enc Tryz.prog W 0 (fun _=>true) true fuel 52 [.slice a len cap]=some x):
    ∃bs,len=bs.length∧BytesAt W a bs:=by
 rcases open_ints Tryz.underlying52 Tryz.underlying5 cellsU8 hf with ⟨hcs,_⟩ | ⟨ad,l,c,zs,hcs,_,hl,hm,hz,hx,hcell,hwz⟩
 ·simp at hcs
  obtain ⟨rfl,rfl,rfl⟩:=hcs
  exact ⟨[],rfl,⟨.inl rfl,by simp,Nat.zero_le _⟩⟩
 ·simp at hcs
  obtain ⟨rfl,rfl,rfl⟩:=hcs
  simp only [if_true] at hz
  have hlen:((zs.take len).map Int.toNat).length=len:=by rw [List.length_map,List.length_take];omega
  refine ⟨(zs.take len).map Int.toNat,hlen.symm,⟨?_,?_,by omega⟩⟩
  ·by_cases h0:len=0
   ·left
    exact List.eq_nil_of_length_eq_zero (by rw [hlen];exact h0)
   ·right
    obtain ⟨b,off,spot⟩:=ad
    have hspot:spot=none:=by simpa [Addr.add] using World.cell?_spot (hcell 0 (by omega))
    subst hspot
    refine ⟨b,off,rfl,fun i hi=> ?_⟩
    rw [hlen] at hi
    have hc:=hcell i (by omega)
    rw [add_none] at hc
    rw [hc]
    have hiz:i<zs.length:=by omega
    obtain ⟨k,hk,he⟩:=u8_of_wfz (hwz (zs[i]) (List.getElem_mem hiz))
    rw [lD,lD,List.getElem?_map,List.getElem?_take_of_lt hi,lE hiz]
    simp only [Option.getD_some,Option.map_some]
    congr 2
    omega
  ·intro v hv
   rw [List.mem_map] at hv
   obtain ⟨z,hz',rfl⟩:=hv
   obtain ⟨k,hk,he⟩:=u8_of_wfz (hwz z (List.mem_of_mem_take hz'))
   omega
theorem open_nil {H:Type} {enc:TypeId × Value→H} {W:World} {a:Option Addr} {len cap fuel:Nat} {x:DataW H × List MemPlace}
    (hf:DataW.trod enc Tryz.prog W 0 (fun _=>true) true fuel 52 [.slice a len cap]=some x):a=none→cap=0:=by
 intro e
 rcases DataW.trod_slice Tryz.underlying52 hf with ⟨hcs,_⟩ | ⟨ad,l,c,_,_,_,_,hcs,_⟩
 ·simp at hcs
  exact hcs.2.2
 ·simp at hcs
  rw [e] at hcs
  cases hcs.1
end
set_option maxRecDepth 100000 in
set_option maxHeartbeats 4000000 in
theorem walk_ReceiptDecodes (a:Option Addr) (c:Nat) (bs:List Nat) (w:World) (hB:BytesAt w a bs) (hnil:a=none→c=0) (hL:Laid w):
    Calls Tryz.prog 8 #[.slice a bs.length c] w fun e w'=>e= .returned (.bool true)∧Below w.heap.size w w':=by
 have HB:=hid hB
 have HAW:=hid (awake43 w hL (Laid.low3' hL))
 obtain ⟨n,hn⟩:=ex_eq bs.length
 have HN:=hid hn
 have HNIL:=hid hnil
 rw [hn]
 clear hB hL hn hnil
 by_cases hs:n≤20000
 rotate_left
 ·have hgt:(20000:Int)<(n:Int):=by omega
  clear hs
  go_enter Tryz.func8,Tryz.ntmps8
  go_wp2_with (first
  | (go_at_call 14
     (with_reducible refine HAW.o.mono ?_)
     rintro e w2 ⟨rfl,h2⟩
     have H2:=hid h2
     clear h2))
  go_ret
  exact ⟨rfl,H2.o⟩
 have hgt: ¬(20000:Int)<(n:Int):=by omega
 have HDC:=hid (fun w h=>decodeR_any a n c bs HN.o (by omega) HNIL.o w h)
 clear hs
 go_enter Tryz.func8,Tryz.ntmps8
 go_upto_region 6 with (first
 | (go_at_call 14
    (with_reducible refine HAW.o.mono ?_)
    rintro e w2 ⟨rfl,h2⟩
    have H2:=hid h2
    clear h2))
 go_at_call 26
 with_reducible refine (HDC.o _ (HB.o.later H2.o)).mono ?_
 rintro e w3 ⟨hout,h3⟩
 have H3:=hid (H2.o.trans (h3.mono H2.o.size))
 clear h3
 rcases hout with ⟨hst,hv,⟨⟨hol,vlt,str,ix,sz,day,ser,cnt,pl,root,pa,si,pt,sq⟩,ap,c1,aq,c2,ar,c3⟩,hx,hok,he⟩ | ⟨hno,he⟩
 ·obtain ⟨n1,e1⟩:=ex_eq pa.length
  obtain ⟨n2,e2⟩:=ex_eq pt.length
  obtain ⟨n3,e3⟩:=ex_eq sq.length
  simp only [RcV.cells,e1,e2,e3] at he
  subst he
  have HLN:Hid (pa.length=n1∧pt.length=n2∧sq.length=n3):=hid ⟨e1,e2,e3⟩
  have HOK:=hid hok
  have HV:Hid (ValidR ⟨hol,vlt,str,ix,sz,day,ser,cnt,pl,root,pa,si,pt,sq⟩∧encR ⟨hol,vlt,str,ix,sz,day,ser,cnt,pl,root,pa,si,pt,sq⟩=bs):=hid (by
   have hx':(⟨hol,vlt,str,ix,sz,day,ser,cnt,pl,root,pa,si,pt,sq⟩:Rc)=rcOf (rdAll (some bs)).1:=hx
   rw [hx']
   exact ⟨validR_iff.1 hv,rdAll_dec HB.o.2.1 hst⟩)
  clear hst hv hx hok e1 e2 e3
  go_upto_region 6 with fail
  refine wp_over (fun V=>Hid (V.heap[w3.heap.size]? =some (.cells #[.int .i64 hol,.int .i64 vlt,.string str,.int .i64 ix,.int .i64 sz,.int .i64 day,.int .i64 ser,.int .i64 cnt,.int .i64 pl,.string root,.slice ap n1 c1,.int .i64 si,.slice aq n2 c2,.slice ar n3 c3] 47 (0,0)))∧Hid (Below w3.heap.size w3 V)) ⟨heap_alloc_new _ _,(Below.refl _ _).alloc (Nat.le_refl _) _⟩ ?_
  rintro V ⟨HG,HVB⟩
  obtain ⟨N,hN⟩:=ex_eq w3.heap.size
  rw [hN] at HG ⊢
  clear hN
  obtain ⟨q0,q1,q2,q3,q4,q5,q6,q7,q8,q9,q10,q11,q12,q13⟩:=row14 HG.o
  have HW:Hid (Below w.heap.size w V):=hid (H3.o.trans (HVB.o.mono H3.o.size))
  have HOV:=hid (HOK.o.later HVB.o)
  have HNN:Hid (n1<9223372036854775808∧n2<9223372036854775808∧n3<9223372036854775808∧StrsAt V ap pa∧StrsAt V aq pt∧StrsAt V ar sq):=hid (by
   obtain ⟨o1,o2,o3,o4,o5,o6⟩:=HOV.o
   have h:=HLN.o
   exact ⟨h.1 ▸ o1,h.2.1 ▸ o2,h.2.2 ▸ o3,o4,o5,o6⟩)
  have HEN:=hid (encodeR_ok hol vlt str ix sz day ser cnt pl root ap n1 c1 si aq n2 c2 ar n3 c3 pa pt sq V HLN.o.1 HNN.o.1 HNN.o.2.2.2.1 HLN.o.2.1 HNN.o.2.1 HNN.o.2.2.2.2.1 HLN.o.2.2 HNN.o.2.2.1 HNN.o.2.2.2.2.2 HV.o.1 bs HV.o.2)
  go_upto_region 9 with (first
   | (go_at_call 25
      (with_reducible refine HEN.o.mono ?_)
      rintro e w4 ⟨ax,L,cap,rfl,hL4,hc4,hb4,hn4,hg4,h4⟩
      have HL4:Hid (n=L):=hid (by rw [← hL4];exact HN.o.symm)
      have HB4:=hid hb4
      have H4:Hid (Below w.heap.size w w4):=hid (HW.o.trans (h4.mono HW.o.size))
      clear hL4 hc4 hb4 hn4 hg4 h4 q0 q1 q2 q3 q4 q5 q6 q7 q8 q9 q10 q11 q12 q13))
  have hcv1:=conv_bytes HB4.o cap
  have hcv2:=conv_bytes (HB.o.later H4.o) c
  rw [HN.o] at hcv1 hcv2
  rw [← HL4.o]
  obtain ⟨z,hz⟩:=ex_eq (strB bs)
  rw [hz] at hcv1 hcv2
  clear hz
  go_wp2_with fail
  go_ret
  exact ⟨by first | rfl | simp,H4.o⟩
 ·subst he
  clear hno
  go_upto_region 6 with fail
  refine wp_over (fun V=>Hid (V.heap[w3.heap.size]? =some (.cells #[.int .i64 0,.int .i64 0,.string ByteArray.empty,.int .i64 0,.int .i64 0,.int .i64 0,.int .i64 0,.int .i64 0,.int .i64 0,.string ByteArray.empty,.slice none 0 0,.int .i64 0,.slice none 0 0,.slice none 0 0] 47 (0,0)))∧Hid (Below w3.heap.size w3 V)) ⟨heap_alloc_new _ _,(Below.refl _ _).alloc (Nat.le_refl _) _⟩ ?_
  rintro V ⟨HG,HVB⟩
  obtain ⟨N,hN⟩:=ex_eq w3.heap.size
  rw [hN] at HG ⊢
  clear hN
  obtain ⟨q0,q1,q2,q3,q4,q5,q6,q7,q8,q9,q10,q11,q12,q13⟩:=row14 HG.o
  have HW:Hid (Below w.heap.size w V):=hid (H3.o.trans (HVB.o.mono H3.o.size))
  have HS0:Hid (StrsAt V none []):=hid (.inl rfl)
  have HSM:Hid (Calls Tryz.prog 27 #[.agg #[.int .i64 0,.int .i64 0,.string ByteArray.empty,.int .i64 0,.int .i64 0,.int .i64 0,.int .i64 0,.int .i64 0,.int .i64 0,.string ByteArray.empty,.slice none 0 0,.int .i64 0,.slice none 0 0,.slice none 0 0],.agg #[.int .i64 0,.int .i64 0,.string { data:= #[] },.int .i64 0,.int .i64 0,.int .i64 0,.int .i64 0,.int .i64 0,.int .i64 0,.string { data:= #[] },.slice none 0 0,.int .i64 0,.slice none 0 0,.slice none 0 0]] V fun e w'=>e= .returned (.bool true)∧Below V.heap.size V w'):=hid (by
   have h:=refSame43_any 0 0 ByteArray.empty 0 0 0 0 0 0 ByteArray.empty none 0 0 0 none 0 0 none 0 0 [] [] [] 0 0 ByteArray.empty 0 0 0 0 0 0 ByteArray.empty none 0 0 0 none 0 0 none 0 0 [] [] [] V rfl (by decide) HS0.o rfl (by decide) HS0.o rfl (by decide) HS0.o rfl (by decide) HS0.o rfl (by decide) HS0.o rfl (by decide) HS0.o (by decide) (by decide) (by decide)
   rwa [sameR_iff.2 rfl] at h)
  go_wp2_with (first
   | (go_at_call 27
      (with_reducible refine HSM.o.mono ?_)
      rintro e w4 ⟨rfl,h4⟩
      have H4:Hid (Below w.heap.size w w4):=hid (HW.o.trans (h4.mono HW.o.size))
      clear h4 q0 q1 q2 q3 q4 q5 q6 q7 q8 q9 q10 q11 q12 q13))
  go_ret
  exact ⟨rfl,H4.o⟩
end Go.Proofs.YtndlihclgdkpaaaGreatDoor
