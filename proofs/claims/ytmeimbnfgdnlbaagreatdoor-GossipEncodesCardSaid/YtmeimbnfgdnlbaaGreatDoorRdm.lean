/- wire.Reader's methods. -/
import Derived.Test.YtmeimbnfgdnlbaaGreatDoorRdt
set_option linter.unusedVariables false
set_option linter.unusedSimpArgs false
open Go.Lib (hid)
namespace Go.Proofs.YtmeimbnfgdnlbaaGreatDoor
open Go.RowKit
open Kit (Chg)
open Sha (v)
open Go.Proofs.YtmeimbnfgdnlbaaGreatDoor.One

theorem own_slice {w:World} {base n:Nat} {v:Value} {bs:List Nat} (h:w.ownsRow base 5 1 v n (bvals bs)) (hb: ∀x ∈ bs,x<256) (hm:bs.length≤maxLen):
    ∃az cz,v= .slice az bs.length cz∧(az=none∨ ∃bl,az=some ⟨bl,0,none⟩)∧BytesAt w az bs∧(az=none→cz=0)∧(∀ad,az=some ad→base≤ad.block)∧bs.length≤cz:=by
 obtain ⟨hn,a,cap,hv,hcap,_,hB,hnil⟩:=bytes_of_own h hb hm
 refine ⟨a,cap,hv,?_,hB,hnil,?_,hcap⟩
 ·rcases h.2 with ⟨rfl,_⟩ | ⟨g,cap',cur,rfl,_⟩
  ·injection hv with h1 _ _;exact .inl h1.symm
  ·injection hv with h1 _ _;exact .inr ⟨g,h1.symm⟩
 ·intro ad e
  rcases h.2 with ⟨rfl,_⟩ | ⟨g,cap',cur,rfl,hg,_⟩
  ·injection hv with h1 _ _;rw [e] at h1;cases h1
  ·injection hv with h1 _ _;rw [e] at h1;cases h1;exact hg
structure RdD (w:World) (p:Nat) (ad:Option Addr) (n c:Nat) (D:List Nat):Prop where
 len:D.length=n
 small:n≤1000000000
 cap:n≤c
 nil:ad=none→c=0
 bytes:BytesAt w ad D
 ne:D≠[]→ ∀x,ad=some x→x.block≠p
theorem RdD.chg {w w':World} {p:Nat} {ad:Option Addr} {n c:Nat} {D:List Nat} (h:RdD w p ad n c D) (hc:Chg (RdM p) w w'):RdD w' p ad n c D:=⟨h.len,h.small,h.cap,h.nil,bytes_ne h.bytes hc (fun h0 x e i hm=>h.ne h0 x e hm),h.ne⟩
theorem RdD.later {w w':World} {p:Nat} {ad:Option Addr} {n c:Nat} {D:List Nat} (h:RdD w p ad n c D) (hb:Below w.heap.size w w'):RdD w' p ad n c D:=⟨h.len,h.small,h.cap,h.nil,h.bytes.later hb,h.ne⟩
def DecB (D:List Nat) (n m o:Nat) (az:Option Addr) (Lz cz:Nat) (er off':Int) (V V':World):Prop:=match rdBlk m (D.drop o) with
 | some (x,r)=>er=0∧(∃o':Nat,off'=(o':Int)∧o'≤n∧D.drop o'=r)∧x.length=Lz∧BytesAt V' az x∧(az=none→cz=0)∧(∀ad,az=some ad→V.heap.size≤ad.block)
 | none=>er≠0
def DecT (D:List Nat) (n m o:Nat) (z:ByteArray) (er off':Int) (V V':World):Prop:=match rdBlk m (D.drop o) with
 | some (x,r)=>er=0∧(∃o':Nat,off'=(o':Int)∧o'≤n∧D.drop o'=r)∧z=strB x
 | none=>er≠0
def DecU (D:List Nat) (n o:Nat) (z er off':Int) (V V':World):Prop:=match rdNum (D.drop o) with
 | some (v,r)=>er=0∧(∃o':Nat,off'=(o':Int)∧o'≤n∧D.drop o'=r)∧z=(v:Int)
 | none=>er≠0
set_option maxRecDepth 100000 in
set_option maxHeartbeats 1000000 in
theorem decB_any (B1 B2 p:Nat) (ad:Option Addr) (n c:Nat) (D:List Nat) (m:Nat) (hm:m≤1000000000) (o:Nat) (ho:o≤n) (last:Int) (w:World) (hr:RdRow w p ad n c (o:Int) last 0) (hD:RdD w p ad n c D) (h1:w.heap[B1]? =some (.cells #[.pointer (some ⟨p,0,none⟩)] 134 (0,0))) (h2:w.heap[B2]? =some (.cells #[.int .i64 (m:Int)] 3 (0,0))):
    Calls Tryz.prog 118 #[.pointer (some ⟨B1,0,none⟩),.pointer (some ⟨B2,0,none⟩)] w fun e w'=> ∃(az:Option Addr) (Lz cz:Nat) (er off':Int),e= .returned (.tuple #[.slice az Lz cz,.int .i64 er])∧(az=none∨ ∃bl,az=some ⟨bl,0,none⟩)∧RdRow w' p ad n c off' last 0∧Chg (RdM p) w w'∧DecB D n m o az Lz cz er off' w w':=by
 have HBK:=hid (block_any p ad c n D hD.len hD.small hD.cap m hm o ho last w hr hD.bytes hD.ne)
 have HD:=hid hD
 have HM:Hid (m≤1000000000):=hid hm
 have d1:=(one_cells h1).1
 have d2:=(one_cells h2).1
 clear hr hD h1 h2 hm
 go_enter Tryz.func118,Tryz.ntmps118
 go_upto_region 2 with (first
  | (go_at_call 119
     (with_reducible refine HBK.o.mono ?_)
     rintro e w2 ⟨o',va,vl,vc,er,rfl,ho',hrow,hchg,hout⟩
     have HO:=hid ho'
     have HR:=hid hrow
     have HC:=hid hchg
     have HU:=hid hout
     clear ho' hrow hchg hout d1 d2))
 have HD2:=hid (HD.o.chg HC.o)
 have HXS:Hid (∃xs:List Nat,xs.length=vl∧vl≤1000000000∧BytesAt w2 va xs∧(va=none→vc=0)∧(match rdBlk m (D.drop o) with | some (x,r)=>er=0∧D.drop o'=r∧x=xs | none=>er≠0∧xs=[]∧va=none∧vc=0)):=hid (by
  have h:=HU.o
  unfold BlkOut at h
  cases hq:rdBlk m (D.drop o) with
  | none=>
    rw [hq] at h
    obtain ⟨h1,h2,h3,h4⟩:=h
    exact ⟨[],h3.symm,by omega,⟨.inl rfl,by simp,by simp⟩,fun _=>h4,h1,rfl,h2,h4⟩
  | some x=>
    obtain ⟨x,r⟩:=x
    rw [hq] at h
    obtain ⟨h1,h2,h3,h4,t,h5,h6,h7,h8⟩:=h
    refine ⟨x,h3,by have:=HM.o;omega,?_,?_,h1,h2,rfl⟩
    ·rw [h5,← h8]
     exact bytesAt_sub HD2.o.bytes (by rw [HD2.o.len];exact HD2.o.cap) t (t+vl)
    ·intro e
     rw [h5] at e
     rw [h6]
     exact subA_none HD2.o.nil e)
 obtain ⟨xs,hx1,hx2,hx3,hx4,hx5⟩:=HXS.o
 have HX1:=hid hx1
 have HX3:=hid hx3
 have HX4:=hid hx4
 have HX5:=hid hx5
 have HX2:=hid hx2
 have HSUM:Hid (Below w2.heap.size w2 w2):=hid (Below.refl _ _)
 clear hx1 hx3 hx4 hx5 HXS HU HBK hx2
 go_wp2_with (first
  | (at_builtin
     refine app_bytes rfl _ _ rfl w2.heap.size (.slice none 0 0) 0 [] (by rfl) (World.ownsRow_nil _ _ _ _) (Nat.le_refl _) (by decide) va vl vc xs HX1.o (by have:=HX2.o;omega) (by rfl) HX3.o HX4.o ?_
     intro v1 w3 ho1 hb1
     have HO1:=hid ho1
     have HB1:=hid hb1
     clear ho1 hb1))
 have hown:=HO1.o
 rw [List.nil_append] at hown
 obtain ⟨az,cz,rfl,hlit,hbz,hnz,hgz,_⟩:=own_slice hown HX3.o.2.1 HX3.o.2.2
 go_ret2
 have HCC:Chg (RdM p) w w3:=HC.o.trans (Chg.of_below' HB1.o (fun k i hk h=>absurd h (by omega)))
 refine ⟨az,xs.length,cz,er,(o':Int),rfl,hlit,HR.o.later HB1.o HR.o.lt,HCC,?_⟩
 unfold DecB
 have h5:=HX5.o
 cases hq:rdBlk m (D.drop o) with
 | none=>rw [hq] at h5;exact h5.1
 | some x=>
   obtain ⟨x,r⟩:=x
   rw [hq] at h5
   obtain ⟨h6,h7,h8⟩:=h5
   subst h8
   exact ⟨h6,⟨o',rfl,HO.o,h7⟩,rfl,hbz,hnz,fun a e=>Nat.le_trans HC.o.size (hgz a e)⟩
set_option maxRecDepth 100000 in
set_option maxHeartbeats 1000000 in
theorem decT_any (B1 B2 p:Nat) (ad:Option Addr) (n c:Nat) (D:List Nat) (m:Nat) (hm:m≤1000000000) (o:Nat) (ho:o≤n) (last:Int) (w:World) (hr:RdRow w p ad n c (o:Int) last 0) (hD:RdD w p ad n c D) (h1:w.heap[B1]? =some (.cells #[.pointer (some ⟨p,0,none⟩)] 134 (0,0))) (h2:w.heap[B2]? =some (.cells #[.int .i64 (m:Int)] 3 (0,0))):
    Calls Tryz.prog 121 #[.pointer (some ⟨B1,0,none⟩),.pointer (some ⟨B2,0,none⟩)] w fun e w'=> ∃(z:ByteArray) (er off':Int),e= .returned (.tuple #[.string z,.int .i64 er])∧RdRow w' p ad n c off' last 0∧Chg (RdM p) w w'∧DecT D n m o z er off' w w':=by
 have HBK:=hid (block_any p ad c n D hD.len hD.small hD.cap m hm o ho last w hr hD.bytes hD.ne)
 have HD:=hid hD
 have HM:Hid (m≤1000000000):=hid hm
 have d1:=(one_cells h1).1
 have d2:=(one_cells h2).1
 clear hr hD h1 h2 hm
 go_enter Tryz.func121,Tryz.ntmps121
 go_upto_region 2 with (first
  | (go_at_call 119
     (with_reducible refine HBK.o.mono ?_)
     rintro e w2 ⟨o',va,vl,vc,er,rfl,ho',hrow,hchg,hout⟩
     have HO:=hid ho'
     have HR:=hid hrow
     have HC:=hid hchg
     have HU:=hid hout
     clear ho' hrow hchg hout d1 d2))
 have HD2:=hid (HD.o.chg HC.o)
 have HXS:Hid (∃xs:List Nat,xs.length=vl∧vl≤1000000000∧BytesAt w2 va xs∧(va=none→vc=0)∧(match rdBlk m (D.drop o) with | some (x,r)=>er=0∧D.drop o'=r∧x=xs | none=>er≠0∧xs=[]∧va=none∧vc=0)):=hid (by
  have h:=HU.o
  unfold BlkOut at h
  cases hq:rdBlk m (D.drop o) with
  | none=>
    rw [hq] at h
    obtain ⟨h1,h2,h3,h4⟩:=h
    exact ⟨[],h3.symm,by omega,⟨.inl rfl,by simp,by simp⟩,fun _=>h4,h1,rfl,h2,h4⟩
  | some x=>
    obtain ⟨x,r⟩:=x
    rw [hq] at h
    obtain ⟨h1,h2,h3,h4,t,h5,h6,h7,h8⟩:=h
    refine ⟨x,h3,by have:=HM.o;omega,?_,?_,h1,h2,rfl⟩
    ·rw [h5,← h8]
     exact bytesAt_sub HD2.o.bytes (by rw [HD2.o.len];exact HD2.o.cap) t (t+vl)
    ·intro e
     rw [h5] at e
     rw [h6]
     exact subA_none HD2.o.nil e)
 obtain ⟨xs,hx1,hx2,hx3,hx4,hx5⟩:=HXS.o
 have HX1:=hid hx1
 have HX3:=hid hx3
 have HX4:=hid hx4
 have HX5:=hid hx5
 have HX2:=hid hx2
 have HSUM:Hid (Below w2.heap.size w2 w2):=hid (Below.refl _ _)
 clear hx1 hx3 hx4 hx5 HXS HU HBK hx2
 have hcv:=conv_bytes HX3.o vc
 rw [HX1.o] at hcv
 obtain ⟨z,hz⟩:=ex_eq (strB xs)
 rw [hz] at hcv
 have HZ:=hid hz
 clear hz
 go_wp2_with fail
 go_ret2
 refine ⟨z,er,(o':Int),rfl,HR.o,HC.o,?_⟩
 unfold DecT
 have h5:=HX5.o
 cases hq:rdBlk m (D.drop o) with
 | none=>rw [hq] at h5;exact h5.1
 | some x=>
   obtain ⟨x,r⟩:=x
   rw [hq] at h5
   obtain ⟨h6,h7,h8⟩:=h5
   subst h8
   exact ⟨h6,⟨o',rfl,HO.o,h7⟩,HZ.o.symm⟩
def rdN:RS→Nat × RS
 | none=>(0,none)
 | some bs=>match rdNum bs with | some (n,r)=>(n,some r) | none=>(0,none)
theorem rdN_some (bs:List Nat):rdN (some bs)=match rdNum bs with | some (n,r)=>(n,some r) | none=>(0,none):=rfl
theorem rdB_some' (m:Nat) (bs:List Nat):rdB m (some bs)=match rdBlk m bs with | some (x,r)=>(x,some r) | none=>([],none):=rfl
theorem RdAt.parts {w:World} {p:Nat} {D:List Nat} {s:RS} (h:RdAt w p D s) (hl:D.length≤1000000000): ∃ad c off last er,RdRow w p ad D.length c off last er∧RdD w p ad D.length c D∧StOk D off er s:=by
 obtain ⟨ad,c,off,last,er,h1,h2,h6,h3,h4,h5⟩:=h
 exact ⟨ad,c,off,last,er,h1,⟨rfl,hl,h2,h6,h3,h4⟩,h5⟩
theorem RdAt.make {w:World} {p:Nat} {D:List Nat} {s:RS} {ad:Option Addr} {c:Nat} {off last er:Int} (h1:RdRow w p ad D.length c off last er) (h2:RdD w p ad D.length c D) (h3:StOk D off er s):RdAt w p D s:=⟨ad,c,off,last,er,h1,h2.cap,h2.nil,h2.bytes,h2.ne,h3⟩
set_option maxRecDepth 100000 in
set_option maxHeartbeats 1000000 in
theorem rdUint_any (p:Nat) (D:List Nat) (s:RS) (hl:D.length≤1000000000) (w:World) (hR:RdAt w p D s):
    Calls Tryz.prog 115 #[.pointer (some ⟨p,0,none⟩)] w fun e w'=>e= .returned (.int .u64 ((rdN s).1:Int))∧RdAt w' p D (rdN s).2∧Chg (RdM p) w w':=by
 obtain ⟨ad,c,off,last,er,hrow,hdat,hst⟩:=hR.parts hl
 have hmf: ∀(fn:Fn) (first cap:Array Value) (w:World),(Instr.makeFunc fn first cap).run Tryz.prog w= .ok (.func fn first cap) w:=fun _ _ _ _=>rfl
 have HRW:=hid hrow
 have HD:=hid hdat
 have HST:=hid hst
 clear hR hrow hdat hst
 cases s with
 | none=>
   have HE:Hid (er≠0):=HST
   go_enter Tryz.func115,Tryz.ntmps115
   go_wp2_with (first
    | (go_at_call 152
       (with_reducible refine (rvU_bad p ad D.length c off last er HE.o _ w HRW.o).mono ?_)
       rintro e w2 ⟨rfl,h2⟩
       have H2:=hid h2
       clear h2))
   go_ret
   exact ⟨rfl,.make (HRW.o.later H2.o HRW.o.lt) (HD.o.later H2.o) HE.o,Chg.of_below' H2.o (fun k i hk h=>absurd h (by omega))⟩
 | some bs=>
   obtain ⟨X,hX⟩:=ex_eq (rdN (some bs))
   have HX:=hid hX
   rw [hX]
   clear hX
   obtain ⟨rfl,o,rfl,ho,hdrop⟩:=HST.o
   have HO:=hid ho
   have HDR:=hid hdrop
   have HRV:=hid (rvU_run (DecU D D.length o) p ad D.length c (o:Int) last w HRW.o (fun V hV hr=>(number_any p ad c D.length D rfl hl o HO.o last V hr (HD.o.later hV).bytes HD.o.ne).mono (by
    rintro e V' ⟨o',u,er,rfl,h1,h2,h3,h4⟩
    refine ⟨u,er,(o':Int),rfl,h2,h3,?_⟩
    unfold DecU
    unfold NumOut at h4
    cases hq:rdNum (D.drop o) with
    | none=>rw [hq] at h4;show er≠0;rw [h4.2];decide
    | some x=>obtain ⟨v,r⟩:=x;rw [hq] at h4;exact ⟨h4.2.1,⟨o',rfl,h1,h4.2.2⟩,h4.1⟩)))
   clear ho hdrop
   go_enter Tryz.func115,Tryz.ntmps115
   go_wp2_with (first
    | (go_at_call 152
       (with_reducible refine HRV.o.mono ?_)
       rintro e w2 ⟨z,er,off',V,V',h1,h2,h3,h4,h5,h6⟩
       have H2:=hid h2
       have H5:=hid h5
       have H6:=hid h6
       clear h1 h2 h3 h4 h5 h6
       rcases H6.o with ⟨he,rfl,hrow⟩ | ⟨he,rfl,hrow⟩))
   ·have HROW:=hid hrow
    have HER:=hid he
    clear hrow he
    go_wp2_with fail
    go_ret
    have h2:=H2.o
    unfold DecU at h2
    rw [HDR.o] at h2
    cases hq:rdNum bs with
    | none=>rw [hq] at h2;exact absurd HER.o h2
    | some x=>
      obtain ⟨v,r⟩:=x
      rw [hq] at h2
      obtain ⟨_,⟨o',h7,h8,h9⟩,h10⟩:=h2
      have hXX:X=(v,some r):=by rw [← HX.o,rdN_some,hq]
      subst hXX
      exact ⟨by rw [h10];rfl,.make HROW.o (HD.o.chg H5.o) ⟨rfl,o',h7,h8,h9⟩,H5.o⟩
   ·have HROW:=hid hrow
    have HER:=hid he
    clear hrow he
    go_wp2_with fail
    go_ret
    have h2:=H2.o
    unfold DecU at h2
    rw [HDR.o] at h2
    cases hq:rdNum bs with
    | none=>
      have hXX:X=(0,none):=by rw [← HX.o,rdN_some,hq]
      subst hXX
      exact ⟨rfl,.make HROW.o (HD.o.chg H5.o) HER.o,H5.o⟩
    | some x=>obtain ⟨v,r⟩:=x;rw [hq] at h2;exact absurd h2.1 HER.o
def BytesOut (p:Nat) (D:List Nat) (X:List Nat × RS) (w:World) (e:Ending) (w':World):Prop:= ∃(a:Option Addr) (L c:Nat),e= .returned (.slice a L c)∧X.1.length=L∧BytesAt w' a X.1∧(a=none→c=0)∧(∀ad,a=some ad→w.heap.size≤ad.block)∧RdAt w' p D X.2∧Chg (RdM p) w w'
set_option maxRecDepth 100000 in
set_option maxHeartbeats 1000000 in
theorem rdBytes_any (p:Nat) (D:List Nat) (s:RS) (hl:D.length≤1000000000) (m:Nat) (hm:m≤1000000000) (w:World) (hR:RdAt w p D s):
    Calls Tryz.prog 78 #[.pointer (some ⟨p,0,none⟩),.int .i64 (m:Int)] w fun e w'=>BytesOut p D (rdB m s) w e w':=by
 obtain ⟨ad,c,off,last,er,hrow,hdat,hst⟩:=hR.parts hl
 have hmf: ∀(fn:Fn) (first cap:Array Value) (w:World),(Instr.makeFunc fn first cap).run Tryz.prog w= .ok (.func fn first cap) w:=fun _ _ _ _=>rfl
 have HRW:=hid hrow
 have HD:=hid hdat
 have HST:=hid hst
 have HM:Hid (m≤1000000000):=hid hm
 obtain ⟨X,hX⟩:=ex_eq (rdB m s)
 have HX:=hid hX
 rw [hX]
 clear hR hrow hdat hst hX hm
 go_enter Tryz.func78,Tryz.ntmps78
 go_upto_region 1 with fail
 refine wp_over (fun V=>Hid (V.heap[w.heap.size]? =some (.cells #[.pointer (some ⟨p,0,none⟩)] 134 (0,0)))∧Hid (V.heap[w.heap.size+1]? =some (.cells #[.int .i64 (m:Int)] 3 (0,0)))∧Hid (Below w.heap.size w V)∧Hid (V.heap.size=w.heap.size+2)) ⟨two_rows1,two_rows2,two_below,two_size⟩ ?_
 rintro W ⟨HB1,HB2,HB,HWS⟩
 obtain ⟨B1,hB1⟩:=ex_eq w.heap.size
 obtain ⟨B2,hB2⟩:=ex_eq (w.heap.size+1)
 have HBB:Hid (w.heap.size=B1∧B2=B1+1):=hid (by omega)
 rw [hB2] at HB2 ⊢
 rw [hB1] at HB1 ⊢
 clear hB1 hB2
 have HRW2:=hid (HRW.o.later HB.o HRW.o.lt)
 have HD2:=hid (HD.o.later HB.o)
 have b0:=(one_cells HB1.o).1
 cases s with
 | none=>
   have HE:Hid (er≠0):=HST
   have hXX:X=([],none):=HX.o.symm
   subst hXX
   go_wp2_with (first
    | (go_at_call 117
       (with_reducible refine (rvB_bad p ad D.length c off last er HE.o _ W HRW2.o).mono ?_)
       rintro e w2 ⟨rfl,h2⟩
       have H3:Hid (Below w.heap.size w w2):=hid (HB.o.trans (h2.mono (by have:=HWS.o;omega)))
       clear h2 b0))
   go_ret
   exact ⟨none,0,0,rfl,rfl,⟨.inl rfl,by simp,by simp⟩,fun _=>rfl,by simp,.make (HRW.o.later H3.o HRW.o.lt) (HD.o.later H3.o) HE.o,Chg.of_below' H3.o (fun k i hk h=>absurd h (by omega))⟩
 | some bs=>
   obtain ⟨rfl,o,rfl,ho,hdrop⟩:=HST.o
   have HO:=hid ho
   have HDR:=hid hdrop
   have HRV:=hid (rvB_run (DecB D D.length m o) B1 B2 p ad D.length c (o:Int) last W HRW2.o (fun V hV hr=>decB_any B1 B2 p ad D.length c D m HM.o o HO.o last V hr (HD2.o.later hV) ((hV.block B1 (by have:=HWS.o;have:=HBB.o;omega)).trans HB1.o) ((hV.block B2 (by have:=HWS.o;have:=HBB.o;omega)).trans HB2.o)))
   clear ho hdrop
   go_wp2_with (first
    | (go_at_call 117
       (with_reducible refine HRV.o.mono ?_)
       rintro e w2 ⟨az,Lz,cz,er,off',V,V',h1,h2,h3,h4,h5,h6⟩
       have H1:=hid h1
       have H2:=hid h2
       have H4:=hid h4
       have H5:Hid (Chg (RdM p) w w2):=hid ((Chg.of_below' HB.o (fun k i hk h=>absurd h (by omega))).trans h5)
       have H6:=hid h6
       clear h1 h2 h3 h4 h5 h6 b0
       rcases H6.o with ⟨he,rfl,hrow⟩ | ⟨he,rfl,hrow⟩))
   ·have HROW:=hid hrow
    have HER:=hid he
    have HVW:Hid (Below w.heap.size w V):=hid (HB.o.trans (H1.o.mono (by have:=HWS.o;omega)))
    clear hrow he
    go_wp2_with fail
    go_ret
    have h2:=H2.o
    unfold DecB at h2
    rw [HDR.o] at h2
    cases hq:rdBlk m bs with
    | none=>rw [hq] at h2;exact absurd HER.o h2
    | some x=>
      obtain ⟨v,r⟩:=x
      rw [hq] at h2
      obtain ⟨_,⟨o',h7,h8,h9⟩,h10,h11,h12,h13⟩:=h2
      have hXX:X=(v,some r):=by rw [← HX.o,rdB_some',hq]
      subst hXX
      refine ⟨az,Lz,cz,rfl,h10,?_,h12,fun a e=>Nat.le_trans (HVW.o.size) (h13 a e),.make HROW.o (HD.o.chg H5.o) ⟨rfl,o',h7,h8,h9⟩,H5.o⟩
      exact bytes_ne h11 H4.o (fun _ a e i hm=>by have h1:a.block<V.heap.size:=hm;have:=h13 a e;omega)
   ·have HROW:=hid hrow
    have HER:=hid he
    clear hrow he
    go_wp2_with fail
    go_ret
    have h2:=H2.o
    unfold DecB at h2
    rw [HDR.o] at h2
    cases hq:rdBlk m bs with
    | none=>
      have hXX:X=([],none):=by rw [← HX.o,rdB_some',hq]
      subst hXX
      exact ⟨none,0,0,rfl,rfl,⟨.inl rfl,by simp,by simp⟩,fun _=>rfl,by simp,.make HROW.o (HD.o.chg H5.o) HER.o,H5.o⟩
    | some x=>obtain ⟨v,r⟩:=x;rw [hq] at h2;exact absurd h2.1 HER.o
def TextOut (p:Nat) (D:List Nat) (X:List Nat × RS) (w:World) (e:Ending) (w':World):Prop:=e= .returned (.string (strB X.1))∧RdAt w' p D X.2∧Chg (RdM p) w w'
set_option maxRecDepth 100000 in
set_option maxHeartbeats 1000000 in
theorem rdText_any (p:Nat) (D:List Nat) (s:RS) (hl:D.length≤1000000000) (m:Nat) (hm:m≤1000000000) (w:World) (hR:RdAt w p D s):
    Calls Tryz.prog 79 #[.pointer (some ⟨p,0,none⟩),.int .i64 (m:Int)] w fun e w'=>TextOut p D (rdB m s) w e w':=by
 obtain ⟨ad,c,off,last,er,hrow,hdat,hst⟩:=hR.parts hl
 have hmf: ∀(fn:Fn) (first cap:Array Value) (w:World),(Instr.makeFunc fn first cap).run Tryz.prog w= .ok (.func fn first cap) w:=fun _ _ _ _=>rfl
 have HRW:=hid hrow
 have HD:=hid hdat
 have HST:=hid hst
 have HM:Hid (m≤1000000000):=hid hm
 obtain ⟨X,hX⟩:=ex_eq (rdB m s)
 have HX:=hid hX
 rw [hX]
 clear hR hrow hdat hst hX hm
 go_enter Tryz.func79,Tryz.ntmps79
 go_upto_region 1 with fail
 refine wp_over (fun V=>Hid (V.heap[w.heap.size]? =some (.cells #[.pointer (some ⟨p,0,none⟩)] 134 (0,0)))∧Hid (V.heap[w.heap.size+1]? =some (.cells #[.int .i64 (m:Int)] 3 (0,0)))∧Hid (Below w.heap.size w V)∧Hid (V.heap.size=w.heap.size+2)) ⟨two_rows1,two_rows2,two_below,two_size⟩ ?_
 rintro W ⟨HB1,HB2,HB,HWS⟩
 obtain ⟨B1,hB1⟩:=ex_eq w.heap.size
 obtain ⟨B2,hB2⟩:=ex_eq (w.heap.size+1)
 have HBB:Hid (w.heap.size=B1∧B2=B1+1):=hid (by omega)
 rw [hB2] at HB2 ⊢
 rw [hB1] at HB1 ⊢
 clear hB1 hB2
 have HRW2:=hid (HRW.o.later HB.o HRW.o.lt)
 have HD2:=hid (HD.o.later HB.o)
 have b0:=(one_cells HB1.o).1
 cases s with
 | none=>
   have HE:Hid (er≠0):=HST
   have hXX:X=([],none):=HX.o.symm
   subst hXX
   go_wp2_with (first
    | (go_at_call 120
       (with_reducible refine (rvT_bad p ad D.length c off last er HE.o _ W HRW2.o).mono ?_)
       rintro e w2 ⟨rfl,h2⟩
       have H3:Hid (Below w.heap.size w w2):=hid (HB.o.trans (h2.mono (by have:=HWS.o;omega)))
       clear h2 b0))
   go_ret
   exact ⟨by first | rfl | (rw [strB_nil];rfl),.make (HRW.o.later H3.o HRW.o.lt) (HD.o.later H3.o) HE.o,Chg.of_below' H3.o (fun k i hk h=>absurd h (by omega))⟩
 | some bs=>
   obtain ⟨rfl,o,rfl,ho,hdrop⟩:=HST.o
   have HO:=hid ho
   have HDR:=hid hdrop
   have HRV:=hid (rvT_run (DecT D D.length m o) B1 B2 p ad D.length c (o:Int) last W HRW2.o (fun V hV hr=>decT_any B1 B2 p ad D.length c D m HM.o o HO.o last V hr (HD2.o.later hV) ((hV.block B1 (by have:=HWS.o;have:=HBB.o;omega)).trans HB1.o) ((hV.block B2 (by have:=HWS.o;have:=HBB.o;omega)).trans HB2.o)))
   clear ho hdrop
   go_wp2_with (first
    | (go_at_call 120
       (with_reducible refine HRV.o.mono ?_)
       rintro e w2 ⟨z,er,off',V,V',h1,h2,h3,h4,h5,h6⟩
       have H1:=hid h1
       have H2:=hid h2
       have H4:=hid h4
       have H5:Hid (Chg (RdM p) w w2):=hid ((Chg.of_below' HB.o (fun k i hk h=>absurd h (by omega))).trans h5)
       have H6:=hid h6
       clear h1 h2 h3 h4 h5 h6 b0
       rcases H6.o with ⟨he,rfl,hrow⟩ | ⟨he,rfl,hrow⟩))
   ·have HROW:=hid hrow
    have HER:=hid he
    have HVW:Hid (Below w.heap.size w V):=hid (HB.o.trans (H1.o.mono (by have:=HWS.o;omega)))
    clear hrow he
    go_wp2_with fail
    go_ret
    have h2:=H2.o
    unfold DecT at h2
    rw [HDR.o] at h2
    cases hq:rdBlk m bs with
    | none=>rw [hq] at h2;exact absurd HER.o h2
    | some x=>
      obtain ⟨v,r⟩:=x
      rw [hq] at h2
      obtain ⟨_,⟨o',h7,h8,h9⟩,h10⟩:=h2
      have hXX:X=(v,some r):=by rw [← HX.o,rdB_some',hq]
      subst hXX
      exact ⟨by rw [h10];rfl,.make HROW.o (HD.o.chg H5.o) ⟨rfl,o',h7,h8,h9⟩,H5.o⟩
   ·have HROW:=hid hrow
    have HER:=hid he
    clear hrow he
    go_wp2_with fail
    go_ret
    have h2:=H2.o
    unfold DecT at h2
    rw [HDR.o] at h2
    cases hq:rdBlk m bs with
    | none=>
      have hXX:X=([],none):=by rw [← HX.o,rdB_some',hq]
      subst hXX
      exact ⟨by rw [strB_nil];rfl,.make HROW.o (HD.o.chg H5.o) HER.o,H5.o⟩
    | some x=>obtain ⟨v,r⟩:=x;rw [hq] at h2;exact absurd h2.1 HER.o
end Go.Proofs.YtmeimbnfgdnlbaaGreatDoor
