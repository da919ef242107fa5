/- wire.Reader's methods. -/
import Derived.Test.YtndlihclgdkpaaaGreatDoorRdt
set_option linter.unusedVariables false
set_option linter.unusedSimpArgs false
open Go.Lib (hid)
namespace Go.Proofs.YtndlihclgdkpaaaGreatDoor
open Go.RowKit
open Kit (Chg)
open Sha (v)
open Go.Proofs.YtndlihclgdkpaaaGreatDoor.One

theorem own_slice {w:World} {base n:Nat} {v:Value} {bs:List Nat} (h:w.ownsRow base 5 1 v n (bvals bs)) (hb: ∀x ∈ bs,x<256) (hm:bs.length≤maxLen):
    ∃az cz,v= .slice az bs.length cz∧(az=none∨ ∃bl,az=some ⟨bl,0,none⟩)∧BytesAt w az bs∧(az=none→cz=0)∧(∀ad,az=some ad→base≤ad.block)∧bs.length≤cz:=by
 obtain ⟨hn,a,cap,hv,hcap,_,hB,hnil⟩:=bytes_of_own h hb hm
 refine ⟨a,cap,hv,?_,hB,hnil,?_,hcap⟩
 ·rcases h.2 with ⟨rfl,_⟩ | ⟨g,cap',cur,rfl,_⟩
  ·injection hv with h1 _ _;exact .inl h1.symm
  ·injection hv with h1 _ _;exact .inr ⟨g,h1.symm⟩
 ·intro ad e
  rcases h.2 with ⟨rfl,_⟩ | ⟨g,cap',cur,rfl,hg,_⟩
  ·injection hv with h1 _ _;rw [e] at h1;cases h1
  ·injection hv with h1 _ _;rw [e] at h1;cases h1;exact hg
structure RdD (w:World) (p:Nat) (ad:Option Addr) (n c:Nat) (D:List Nat):Prop where
 len:D.length=n
 small:n≤1000000000
 cap:n≤c
 nil:ad=none→c=0
 bytes:BytesAt w ad D
 ne:D≠[]→ ∀x,ad=some x→x.block≠p
theorem RdD.chg {w w':World} {p:Nat} {ad:Option Addr} {n c:Nat} {D:List Nat} (h:RdD w p ad n c D) (hc:Chg (RdM p) w w'):RdD w' p ad n c D:=⟨h.len,h.small,h.cap,h.nil,bytes_ne h.bytes hc (fun h0 x e i hm=>h.ne h0 x e hm),h.ne⟩
theorem RdD.later {w w':World} {p:Nat} {ad:Option Addr} {n c:Nat} {D:List Nat} (h:RdD w p ad n c D) (hb:Below w.heap.size w w'):RdD w' p ad n c D:=⟨h.len,h.small,h.cap,h.nil,h.bytes.later hb,h.ne⟩
def DecU (D:List Nat) (n o:Nat) (z er off':Int) (V V':World):Prop:=match rdNum (D.drop o) with
 | some (v,r)=>er=0∧(∃o':Nat,off'=(o':Int)∧o'≤n∧D.drop o'=r)∧z=(v:Int)
 | none=>er≠0
def rdN:RS→Nat × RS
 | none=>(0,none)
 | some bs=>match rdNum bs with | some (n,r)=>(n,some r) | none=>(0,none)
theorem rdN_some (bs:List Nat):rdN (some bs)=match rdNum bs with | some (n,r)=>(n,some r) | none=>(0,none):=rfl
theorem RdAt.parts {w:World} {p:Nat} {D:List Nat} {s:RS} (h:RdAt w p D s) (hl:D.length≤1000000000): ∃ad c off last er,RdRow w p ad D.length c off last er∧RdD w p ad D.length c D∧StOk D off er s:=by
 obtain ⟨ad,c,off,last,er,h1,h2,h6,h3,h4,h5⟩:=h
 exact ⟨ad,c,off,last,er,h1,⟨rfl,hl,h2,h6,h3,h4⟩,h5⟩
theorem RdAt.make {w:World} {p:Nat} {D:List Nat} {s:RS} {ad:Option Addr} {c:Nat} {off last er:Int} (h1:RdRow w p ad D.length c off last er) (h2:RdD w p ad D.length c D) (h3:StOk D off er s):RdAt w p D s:=⟨ad,c,off,last,er,h1,h2.cap,h2.nil,h2.bytes,h2.ne,h3⟩
set_option maxRecDepth 100000 in
set_option maxHeartbeats 1000000 in
theorem rdUint_any (p:Nat) (D:List Nat) (s:RS) (hl:D.length≤1000000000) (w:World) (hR:RdAt w p D s):
    Calls Tryz.prog 202 #[.pointer (some ⟨p,0,none⟩)] w fun e w'=>e= .returned (.int .u64 ((rdN s).1:Int))∧RdAt w' p D (rdN s).2∧Chg (RdM p) w w':=by
 obtain ⟨ad,c,off,last,er,hrow,hdat,hst⟩:=hR.parts hl
 have hmf: ∀(fn:Fn) (first cap:Array Value) (w:World),(Instr.makeFunc fn first cap).run Tryz.prog w= .ok (.func fn first cap) w:=fun _ _ _ _=>rfl
 have HRW:=hid hrow
 have HD:=hid hdat
 have HST:=hid hst
 clear hR hrow hdat hst
 cases s with
 | none=>
   have HE:Hid (er≠0):=HST
   go_enter Tryz.func202,Tryz.ntmps202
   go_wp2_with (first
    | (go_at_call 259
       (with_reducible refine (rvU_bad p ad D.length c off last er HE.o _ w HRW.o).mono ?_)
       rintro e w2 ⟨rfl,h2⟩
       have H2:=hid h2
       clear h2))
   go_ret
   exact ⟨rfl,.make (HRW.o.later H2.o HRW.o.lt) (HD.o.later H2.o) HE.o,Chg.of_below' H2.o (fun k i hk h=>absurd h (by omega))⟩
 | some bs=>
   obtain ⟨X,hX⟩:=ex_eq (rdN (some bs))
   have HX:=hid hX
   rw [hX]
   clear hX
   obtain ⟨rfl,o,rfl,ho,hdrop⟩:=HST.o
   have HO:=hid ho
   have HDR:=hid hdrop
   have HRV:=hid (rvU_run (DecU D D.length o) p ad D.length c (o:Int) last w HRW.o (fun V hV hr=>(number_any p ad c D.length D rfl hl o HO.o last V hr (HD.o.later hV).bytes HD.o.ne).mono (by
    rintro e V' ⟨o',u,er,rfl,h1,h2,h3,h4⟩
    refine ⟨u,er,(o':Int),rfl,h2,h3,?_⟩
    unfold DecU
    unfold NumOut at h4
    cases hq:rdNum (D.drop o) with
    | none=>rw [hq] at h4;show er≠0;rw [h4.2];decide
    | some x=>obtain ⟨v,r⟩:=x;rw [hq] at h4;exact ⟨h4.2.1,⟨o',rfl,h1,h4.2.2⟩,h4.1⟩)))
   clear ho hdrop
   go_enter Tryz.func202,Tryz.ntmps202
   go_wp2_with (first
    | (go_at_call 259
       (with_reducible refine HRV.o.mono ?_)
       rintro e w2 ⟨z,er,off',V,V',h1,h2,h3,h4,h5,h6⟩
       have H2:=hid h2
       have H5:=hid h5
       have H6:=hid h6
       clear h1 h2 h3 h4 h5 h6
       rcases H6.o with ⟨he,rfl,hrow⟩ | ⟨he,rfl,hrow⟩))
   ·have HROW:=hid hrow
    have HER:=hid he
    clear hrow he
    go_wp2_with fail
    go_ret
    have h2:=H2.o
    unfold DecU at h2
    rw [HDR.o] at h2
    cases hq:rdNum bs with
    | none=>rw [hq] at h2;exact absurd HER.o h2
    | some x=>
      obtain ⟨v,r⟩:=x
      rw [hq] at h2
      obtain ⟨_,⟨o',h7,h8,h9⟩,h10⟩:=h2
      have hXX:X=(v,some r):=by rw [← HX.o,rdN_some,hq]
      subst hXX
      exact ⟨by rw [h10];rfl,.make HROW.o (HD.o.chg H5.o) ⟨rfl,o',h7,h8,h9⟩,H5.o⟩
   ·have HROW:=hid hrow
    have HER:=hid he
    clear hrow he
    go_wp2_with fail
    go_ret
    have h2:=H2.o
    unfold DecU at h2
    rw [HDR.o] at h2
    cases hq:rdNum bs with
    | none=>
      have hXX:X=(0,none):=by rw [← HX.o,rdN_some,hq]
      subst hXX
      exact ⟨rfl,.make HROW.o (HD.o.chg H5.o) HER.o,H5.o⟩
    | some x=>obtain ⟨v,r⟩:=x;rw [hq] at h2;exact absurd h2.1 HER.o
end Go.Proofs.YtndlihclgdkpaaaGreatDoor
