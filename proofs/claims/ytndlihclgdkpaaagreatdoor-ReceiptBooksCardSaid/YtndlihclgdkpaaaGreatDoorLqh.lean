/- The law ReceiptBooks. -/
import Derived.Test.YtndlihclgdkpaaaGreatDoorQfh
import Derived.Test.YtndlihclgdkpaaaGreatDoorQfd
import Derived.Test.YtndlihclgdkpaaaGreatDoorQaw
import Derived.Test.YtndlihclgdkpaaaGreatDoorQli
import Derived.Test.YtndlihclgdkpaaaGreatDoorOpw
set_option linter.unusedVariables false
set_option linter.unusedSimpArgs false
open Go.Lib (hid)
namespace Go.Proofs.YtndlihclgdkpaaaGreatDoor
open Go.RowKit
open Kit (Chg)
open Sha (v)
open Go.Proofs.YtndlihclgdkpaaaGreatDoor.One

theorem RcsAt.keepC {w w':World} {a:Option Addr} {xs:List RcV} {M:Nat→Nat→Prop} (h:RcsAt w a xs) (hc:Chg M w w') (ha:xs≠[]→ ∀ad,a=some ad→ ∀i,¬M ad.block i) (hx: ∀x ∈ xs,∀q,x.blk q→ ∀i,¬M q i):RcsAt w' a xs:=by
 refine ⟨?_,fun x hm=>(h.2 x hm).keepB hc (hx x hm)⟩
 rcases h.1 with e | ⟨b,o,e,hcl⟩
 ·exact .inl e
 ·refine .inr ⟨b,o,e,fun k hk j hj=> ?_⟩
  have h1:=hcl k hk j hj
  have h2:xs[k].cells[j]? =some (xs[k].cells[j]'hj):=lE hj
  rw [h2] at h1 ⊢
  exact hc.cell h1 (ha (fun e2=>by rw [e2] at hk;exact absurd hk (Nat.not_lt_zero k)) _ e _)
theorem BookAt.len {w:World} {O:Nat→Prop} {bk:Nat} {m:List Rc} {c:Nat} (h:BookAt w O bk m c):m.length≤c:=by
 obtain ⟨b1,b2,R,h⟩:=h
 exact h.len
def BkS (w1:World) (N bk:Nat) (wr:World) (k:Nat) (v:Value):Prop:= ∃(O:Nat→Prop) (m:List Rc) (am:Option Addr) (nm cm:Nat) (xs:List RcV),v= .slice am nm cm∧BookAt wr O bk m k∧RcsAt wr am xs∧xs.length=nm∧xs.map RcV.r=m∧nm≤cm∧(am=none→cm=0)∧(∀q,O q→N≤q)∧(∀ad,am=some ad→ ¬O ad.block∧ad.block<wr.heap.size)∧(∀x ∈ xs,∀q,x.blk q→ ¬O q)∧Below N w1 wr
theorem BkS.later {w1 wr w2:World} {N bk k:Nat} {v:Value} (h:BkS w1 N bk wr k v) (hN:N≤wr.heap.size) (hb:Below wr.heap.size wr w2):BkS w1 N bk w2 k v:=by
 obtain ⟨O,m,am,nm,cm,xs,e,h1,h2,h3,h4,h5,h6,h7,h8,h9,h10⟩:=h
 exact ⟨O,m,am,nm,cm,xs,e,h1.later hb,h2.later hb,h3,h4,h5,h6,h7,fun ad hd=>⟨(h8 ad hd).1,Nat.lt_of_lt_of_le (h8 ad hd).2 hb.size⟩,h9,h10.trans (hb.mono hN)⟩
theorem BkS.step {w1 w2 w3:World} {N bk k:Nat} {O O':Nat→Prop} {m':List Rc} {am:Option Addr} {nm cm:Nat} {xs:List RcV} (h12:Below N w1 w2) (hN:N≤w2.heap.size) (hC:Chg (fun q _=>O q) w2 w3) (hO: ∀q,O q→N≤q) (hB:BookAt w3 O' bk m' k) (hO': ∀q,O' q→O q∨w2.heap.size≤q) (hX:RcsAt w2 am xs) (hn:xs.length=nm) (hm:xs.map RcV.r=m') (hcap:nm≤cm) (hnil:am=none→cm=0) (ha: ∀ad,am=some ad→ ¬O ad.block∧ad.block<w2.heap.size) (hx: ∀x ∈ xs,∀q,x.blk q→ ¬O q):BkS w1 N bk w3 k (.slice am nm cm):=by
 refine ⟨O',m',am,nm,cm,xs,rfl,hB,hX.keepC hC (fun _ ad e i=>(ha ad e).1) (fun x hm q hq i=>hx x hm q hq),hn,hm,hcap,hnil,fun q hq=> ?_,fun ad e=>⟨fun h=> ?_,Nat.lt_of_lt_of_le (ha ad e).2 hC.size⟩,fun x hm q hq h=> ?_,h12.trans (hC.below hN (fun q i hq h=>by have:=hO q h;omega))⟩
 ·rcases hO' q hq with h | h
  ·exact hO q h
  ·omega
 ·rcases hO' _ h with h1 | h1
  ·exact (ha ad e).1 h1
  ·have:=(ha ad e).2;omega
 ·rcases hO' _ h with h1 | h1
  ·exact hx x hm q hq h1
  ·have:=(hX.2 x hm).blk_lt hq;omega
def curR (m:List Rc) (p:Pc):Rc × Int:=match curB m p with | some r=>(r,0) | none=>(zeroRc,4)
theorem getCur_gen (O:Nat→Prop) (bk:Nat) (m:List Rc) (c:Nat) (hc:c≤100000) (s:ByteArray) (i:Int) (hs:s.size≤maxLen) (hi:(Lit.int .i64 i).wf=true) (hol vlt:Int) (str:ByteArray) (ix sz day ser cnt pl:Int) (root:ByteArray) (si:Int) (pa pt sq:List ByteArray) (er:Int) (n1 n2 n3:Nat) (h1:pa.length=n1) (h2:pt.length=n2) (h3:sq.length=n3) (h:curR m ⟨s,i⟩=(⟨hol,vlt,str,ix,sz,day,ser,cnt,pl,root,pa,si,pt,sq⟩,er)) (w:World) (hB:BookAt w O bk m c):
    Calls Tryz.prog 44 #[.pointer (some ⟨bk,0,none⟩),.agg #[.string s,.int .i64 i]] w fun e w'=> ∃a6 d6 a7 d7 a8 d8,e= .returned (.tuple #[.agg #[.int .i64 hol,.int .i64 vlt,.string str,.int .i64 ix,.int .i64 sz,.int .i64 day,.int .i64 ser,.int .i64 cnt,.int .i64 pl,.string root,.slice a6 n1 d6,.int .i64 si,.slice a7 n2 d7,.slice a8 n3 d8],.int .i64 er])∧(⟨⟨hol,vlt,str,ix,sz,day,ser,cnt,pl,root,pa,si,pt,sq⟩,a6,d6,a7,d7,a8,d8⟩:RcV).ok w'∧Below w.heap.size w w':=by
 unfold curR at h
 cases hcu:curB m ⟨s,i⟩ with
 | none=>
   rw [hcu] at h
   obtain ⟨h4,h5⟩:=Prod.mk.inj h
   unfold zeroRc at h4
   injection h4 with g0 g1 g2 g3 g4 g5 g6 g7 g8 g9 g10 g11 g12 g13
   subst g0 g1 g2 g3 g4 g5 g6 g7 g8 g9 g10 g11 g12 g13 h5
   subst h1 h2 h3
   refine (getCurrent_none O bk m c hc s i hs hi hcu w hB).mono ?_
   rintro e w' ⟨he,hb⟩
   exact ⟨none,0,none,0,none,0,he,zeroRV_ok w',hb⟩
 | some r=>
   rw [hcu] at h
   obtain ⟨h4,h5⟩:=Prod.mk.inj h
   subst h4 h5
   refine (getCurrent_some O bk m c hc s i hs hi hol vlt str ix sz day ser cnt pl root si pa pt sq n1 n2 n3 h1 h2 h3 hcu w hB).mono ?_
   rintro e w' ⟨a6,d6,a7,d7,a8,d8,he,hk,_,hb⟩
   exact ⟨a6,d6,a7,d7,a8,d8,he,hk,hb⟩
theorem refCur_gen (a:Option Addr) (c L:Nat) (xs:List RcV) (hLe:xs.length=L) (hL:L≤100000) (s:ByteArray) (i:Int) (hol vlt:Int) (str:ByteArray) (ix sz day ser cnt pl:Int) (root:ByteArray) (si:Int) (pa pt sq:List ByteArray) (er:Int) (n1 n2 n3:Nat) (h1:pa.length=n1) (h2:pt.length=n2) (h3:sq.length=n3) (h:curR (xs.map RcV.r) ⟨s,i⟩=(⟨hol,vlt,str,ix,sz,day,ser,cnt,pl,root,pa,si,pt,sq⟩,er)) (w:World) (hX:RcsAt w a xs):
    Calls Tryz.prog 45 #[.slice a L c,.agg #[.string s,.int .i64 i]] w fun e w'=> ∃ap c1 aq c2 ar c3,e= .returned (.tuple #[.agg #[.int .i64 hol,.int .i64 vlt,.string str,.int .i64 ix,.int .i64 sz,.int .i64 day,.int .i64 ser,.int .i64 cnt,.int .i64 pl,.string root,.slice ap n1 c1,.int .i64 si,.slice aq n2 c2,.slice ar n3 c3],.int .i64 er])∧(⟨⟨hol,vlt,str,ix,sz,day,ser,cnt,pl,root,pa,si,pt,sq⟩,ap,c1,aq,c2,ar,c3⟩:RcV).ok w'∧Below w.heap.size w w':=by
 unfold curR at h
 cases hcu:curB (xs.map RcV.r) ⟨s,i⟩ with
 | none=>
   rw [hcu] at h
   obtain ⟨h4,h5⟩:=Prod.mk.inj h
   unfold zeroRc at h4
   injection h4 with g0 g1 g2 g3 g4 g5 g6 g7 g8 g9 g10 g11 g12 g13
   subst g0 g1 g2 g3 g4 g5 g6 g7 g8 g9 g10 g11 g12 g13 h5
   subst h1 h2 h3
   refine (refCurrent_none a c L xs hLe hL s i hcu w hX).mono ?_
   rintro e w' ⟨he,hb⟩
   exact ⟨none,0,none,0,none,0,he,zeroRV_ok w',hb⟩
 | some r=>
   rw [hcu] at h
   obtain ⟨h4,h5⟩:=Prod.mk.inj h
   subst h4 h5
   refine (refCurrent_some a c L xs hLe hL s i hol vlt str ix sz day ser cnt pl root si pa pt sq n1 n2 n3 h1 h2 h3 hcu w hX).mono ?_
   rintro e w' ⟨ap,c1,aq,c2,ar,c3,he,hk,hb⟩
   exact ⟨ap,c1,aq,c2,ar,c3,he,(hX.2 _ hk).later hb,hb⟩
def CarG (w:World) (m:List Rc) (s:ByteArray) (t:Int) (al:Option Addr) (nl cl:Nat) (el:Int):Prop:=(¬(1≤t∧t≤16)∧al=none∧nl=0∧cl=0∧el=1)∨ ∃n bo:Nat,t=(n:Int)∧1≤n∧n≤16∧al=some ⟨bo,0,none⟩∧n=nl∧n=cl∧el=0∧ ∀i (h:i<(carB m s n).length),w.cell? ⟨bo,i,none⟩=some (.int .i64 (carB m s n)[i])
theorem CarG.later {w w':World} {m:List Rc} {s:ByteArray} {t:Int} {al:Option Addr} {nl cl:Nat} {el:Int} (h:CarG w m s t al nl cl el) (hb:Below w.heap.size w w'):CarG w' m s t al nl cl el:=by
 rcases h with h | ⟨n,bo,h1,h2,h3,h4,h5,h6,h7,h8⟩
 ·exact .inl h
 ·exact .inr ⟨n,bo,h1,h2,h3,h4,h5,h6,h7,fun i h=>(hb.cell (World.block_lt_of_cell? w _ (h8 i h))).trans (h8 i h)⟩
theorem carried_gen (O:Nat→Prop) (bk:Nat) (m:List Rc) (c:Nat) (hc:c≤100000) (s:ByteArray) (hs:s.size≤maxLen) (t:Int) (w:World) (hB:BookAt w O bk m c):Calls Tryz.prog 46 #[.pointer (some ⟨bk,0,none⟩),.string s,.int .i64 t] w fun e w'=> ∃al nl cl el,e= .returned (.tuple #[.slice al nl cl,.int .i64 el])∧CarG w' m s t al nl cl el∧Below w.heap.size w w':=by
 by_cases ht:1≤t∧t≤16
 rotate_left
 ·refine (carried_bad bk s t ht w).mono ?_
  rintro e w' ⟨he,rfl⟩
  exact ⟨none,0,0,1,he,.inl ⟨ht,rfl,rfl,rfl,rfl⟩,Below.refl _ _⟩
 ·obtain ⟨n,rfl⟩: ∃n:Nat,t=(n:Int):=⟨t.toNat,by omega⟩
  refine (carried_ok O bk m c hc s hs n (by omega) (by omega) w hB).mono ?_
  rintro e w' ⟨bo,he,_,hrow,hb⟩
  exact ⟨_,n,n,0,he,.inr ⟨n,bo,rfl,by omega,by omega,rfl,rfl,rfl,rfl,fun i h=>(cell_of_row _ _ _ _ _ _ hrow).trans (by unfold intV;rw [List.getElem?_toArray,List.getElem?_map,lE h,Option.map_some])⟩,hb⟩
theorem DocRc.blk {w:World} {B n c:Nat} {ad:Addr} {ys:List RcV} (h:DocRc w B (.slice (some ad) n c) n ys):B≤ad.block∧ad.block<w.heap.size:=by
 rcases h.1.2 with ⟨e,_⟩ | ⟨g,cap,cur,e,h1,h2,_⟩
 ·cases e
 ·injection e with e _ _
  injection e with e
  subst e
  exact ⟨h1,(gS h2).1⟩
set_option maxRecDepth 100000 in
set_option maxHeartbeats 4000000 in
theorem walk_ReceiptBooks (a:Option Addr) (c L:Nat) (ys:List OpB) (s:ByteArray) (i:Int) (t:Int) (w:World) (hl:ys.length=L) (hm:L≤9223372036854775807) (hS:OpsB w a ys) (hSW: ∀y ∈ ys,y.x.r.str.size≤maxLen) (hs:s.size≤maxLen) (hi:(Lit.int .i64 i).wf=true) (hL:Laid w):
    Calls Tryz.prog 10 #[.slice a L c,.agg #[.string s,.int .i64 i],.int .i64 t] w fun e w'=>e= .returned (.bool true)∧Below w.heap.size w w':=by
 have HL:=hid hl
 have HM:=hid hm
 have HS:=hid hS
 have HSW:=hid hSW
 have HPW:=hid (And.intro hs hi)
 have HLD:=hid hL
 clear hl hm hS hSW hs hi hL
 go_enter Tryz.func10,Tryz.ntmps10
 go_upto_region 1 with fail
 refine wp_over (fun W=>Hid (W.heap[w.heap.size]? =some (.cells #[.string s,.int .i64 i] 42 (0,0)))∧Hid (Below w.heap.size w W)∧Hid (W.heap.size=w.heap.size+1)) ⟨heap_alloc_new _ _,(Below.refl _ _).alloc (Nat.le_refl _) _,by show _=_;simp⟩ ?_
 rintro w1 ⟨HPB,HB1,HW1⟩
 obtain ⟨P,hP⟩:=ex_eq w.heap.size
 rw [hP] at HPB HW1 ⊢
 obtain ⟨N,hN⟩:=ex_eq (P+1)
 have HNW:Hid (w.heap.size=P∧N=P+1∧w1.heap.size=N):=hid ⟨hP,hN.symm,by rw [← hN];exact HW1.o⟩
 have HLD1:=hid (HLD.o.later HB1.o (Nat.le_refl _))
 clear hP hN HW1
 have HAW:=hid (awake43 w1 HLD1.o (Laid.low3' HLD1.o))
 go_wp2_with fail
 with_reducible refine HAW.o.mono ?_
 rintro e w2 ⟨rfl,hb⟩
 have H2:Hid (Below N w1 w2):=hid (by rw [← HNW.o.2.2];exact hb)
 clear hb HAW
 have HSZ:Hid (∀V,Below N w1 V→N≤V.heap.size):=hid (fun V h=>by have:=h.size;have:=HNW.o;omega)
 have HBW:Hid (∀V,Below N w1 V→Below w.heap.size w V):=hid (fun V h=>HB1.o.trans (h.mono (by have:=HNW.o;omega)))
 obtain ⟨LB,hLB⟩:=ex_eq (lightB ys 20)
 have HLI:Hid (Calls Tryz.prog 37 #[.slice a L c,.int .i64 20] w2 fun e w'=>e= .returned (.bool LB)∧Below w2.heap.size w2 w'):=hid (by
  have h:=light_any a c L 20 ys HL.o (by have:=HM.o;omega) w2 (HS.o.later (HBW.o _ H2.o))
  rw [hLB] at h
  exact h)
 have HLB:=hid hLB
 clear hLB
 go_wp2_with fail
 with_reducible refine HLI.o.mono ?_
 rintro e w3 ⟨rfl,hb⟩
 have H3:Hid (Below N w1 w3):=hid (H2.o.trans (hb.mono (HSZ.o _ H2.o)))
 clear hb HLI
 cases LB
 ·go_wp2_with fail
  go_ret
  exact ⟨rfl,HBW.o _ H3.o⟩
 have hL20:L≤20:=by
  have h:=HLB.o
  unfold lightB at h
  simp only [Bool.and_eq_true,decide_eq_true_eq] at h
  have:=HL.o
  omega
 go_upto_region 6 with fail
 go_at_call 38
 with_reducible refine (newBook_any w3).mono ?_
 rintro e w4 ⟨bk,rfl,hbk,hBA,hb⟩
 have HBA:=hid hBA
 have H4:Hid (Below N w1 w4):=hid (H3.o.trans (hb.mono (HSZ.o _ H3.o)))
 clear hb hbk hBA
 go_upto_region 6 with fail
 refine wp_over (fun V=>Hid (BkS w1 N bk V 0 (.slice (some ⟨w4.heap.size,0,none⟩) 0 0))) (hid ⟨_,[],_,0,0,[],rfl,HBA.o.later ((Below.refl _ _).alloc (Nat.le_refl _) _),⟨.inl rfl,fun x hx=>(by cases hx)⟩,rfl,rfl,Nat.le_refl _,fun e=>(by cases e),fun q hq=>Nat.le_trans (HSZ.o _ H3.o) hq.1,fun ad e=>by
     injection e with e
     subst e
     exact ⟨fun h=>absurd h.2 (Nat.lt_irrefl _),by simp⟩,fun x hx=>(by cases hx),H4.o.trans ((Below.refl _ _).alloc (HSZ.o _ H4.o) _)⟩) ?_
 rintro W HBS0
 clear HBA H2 H3 H4
 go_upto_region 7 with fail
 go_loopw [8,9] (fun v y wr=> ∃k:Nat,k≤L∧y= .int .i64 (k:Int)∧Hid (BkS w1 N bk wr k v)) (fun _ y _=>L - (intOf y).toNat)
 case atStart=>exact ⟨0,Nat.zero_le _,rfl,HBS0⟩
 case round=>
  clear HBS0
  obtain ⟨k,hk,rfl,HBS⟩:=hrel
  have hbs:=HBS.o
  obtain ⟨O,m,am,nm,cm,xs,rfl,g1,g2,g3,g4,g5,g6,g7,g8,g9,g10⟩:=hbs
  have HBK:=hid g1
  have HG:=hid g1.good
  have HDX:=hid g2
  have HXS:=hid (And.intro g3 g4)
  have HCM:=hid (And.intro g5 g6)
  have HON:=hid g7
  have HAM:=hid g8
  have HAX:=hid g9
  have HR:=hid g10
  have HNR:=hid (HSZ.o _ g10)
  have hnm:nm≤20:=by
   have h1:=congrArg List.length g4
   have h2:=g1.len
   rw [List.length_map,g3] at h1
   omega
  clear g1 g2 g3 g4 g5 g6 g7 g8 g9 g10 HBS
  by_cases hlt:k<L
  rotate_left
  ·have hki: ¬(k:Int)<(L:Int):=by omega
   clear hlt
   have HCB:Hid (∀V,Below wr.heap.size wr V→(V.cell? ⟨P,0,none⟩=some (.string s)∧V.cell? ⟨P,1,none⟩=some (.int .i64 i))):=hid (fun V h=>by
    have h1:V.heap[P]? =some (.cells #[.string s,.int .i64 i] 42 (0,0)):=((HR.o.trans (h.mono HNR.o)).block P (by have:=HNW.o;omega)).trans HPB.o
    exact ⟨cr h1,cr h1⟩)
   have HBV:Hid (∀V,Below wr.heap.size wr V→BookAt V O bk m k):=hid (fun V h=>HBK.o.later h)
   have HXV:Hid (∀V,Below wr.heap.size wr V→RcsAt V am xs):=hid (fun V h=>HDX.o.later h)
   obtain ⟨⟨r,er⟩,hcr⟩:=ex_eq (curR m ⟨s,i⟩)
   have HSR:Hid (r.path.length≤1000000∧r.parts.length≤1000000∧r.sp.length≤1000000):=hid (by
    unfold curR at hcr
    cases hcu:curB m ⟨s,i⟩ with
    | none=>
      rw [hcu] at hcr
      rw [← (Prod.mk.inj hcr).1]
      decide
    | some r2=>
      rw [hcu] at hcr
      rw [← (Prod.mk.inj hcr).1]
      exact (HG.o.v _ (curB_some hcu).1).small)
   obtain ⟨hol,vlt,str,ix,sz,day,ser,cnt,pl,root,pa,si,pt,sq⟩:=r
   obtain ⟨n1,e1⟩:=ex_eq pa.length
   obtain ⟨n2,e2⟩:=ex_eq pt.length
   obtain ⟨n3,e3⟩:=ex_eq sq.length
   have HLR:Hid (pa.length=n1∧pt.length=n2∧sq.length=n3):=hid ⟨e1,e2,e3⟩
   have HKR:Hid (n1≤1000000∧n2≤1000000∧n3≤1000000):=hid (by rw [← e1,← e2,← e3];exact HSR.o)
   have hk2:k≤100000:=by omega
   have hn2:nm≤100000:=by omega
   have HCU:=hid (fun V h=>getCur_gen O bk m k hk2 s i HPW.o.1 HPW.o.2 hol vlt str ix sz day ser cnt pl root si pa pt sq er n1 n2 n3 e1 e2 e3 hcr V (HBV.o V h))
   have HCD:=hid (fun V h=>refCur_gen am cm nm xs HXS.o.1 hn2 s i hol vlt str ix sz day ser cnt pl root si pa pt sq er n1 n2 n3 e1 e2 e3 (by rw [HXS.o.2];exact hcr) V (HXV.o V h))
   clear hcr e1 e2 e3 HSR
   obtain ⟨q2,q3⟩:=HCB.o wr (Below.refl _ _)
   go_upto_region 21 with fail
   go_at_call 44
   with_reducible refine (HCU.o _ (Below.refl _ _)).mono ?_
   rintro e w2 ⟨a6,d6,a7,d7,a8,d8,rfl,hok,hb⟩
   have HOK6:=hid hok
   have HB2:=hid hb
   clear hok hb HCU q2 q3
   go_upto_region 21 with fail
   refine wp_over (fun V=>Hid (V.heap[w2.heap.size]? =some (.cells #[.int .i64 hol,.int .i64 vlt,.string str,.int .i64 ix,.int .i64 sz,.int .i64 day,.int .i64 ser,.int .i64 cnt,.int .i64 pl,.string root,.slice a6 n1 d6,.int .i64 si,.slice a7 n2 d7,.slice a8 n3 d8] 47 (0,0)))∧Hid (Below w2.heap.size w2 V)∧Hid (V.heap.size=w2.heap.size+1)) ⟨heap_alloc_new _ _,(Below.refl _ _).alloc (Nat.le_refl _) _,by show _=_;simp⟩ ?_
   rintro X ⟨HG1,HXB,HXS1⟩
   have HBX:Hid (Below wr.heap.size wr X):=hid (HB2.o.trans (HXB.o.mono HB2.o.size))
   have HOK6X:=hid (HOK6.o.later HXB.o)
   obtain ⟨D1,hD⟩:=ex_eq w2.heap.size
   rw [hD] at HG1 HXS1 ⊢
   clear hD HXB HB2 HOK6
   obtain ⟨q2,q3⟩:=HCB.o X HBX.o
   go_upto_region 22 with fail
   go_at_call 45
   with_reducible refine (HCD.o _ HBX.o).mono ?_
   rintro e w3 ⟨ap,c1,aq,c2,ar,c3,rfl,hok,hb⟩
   have HOKR:=hid hok
   have HB3:=hid hb
   clear hok hb HCD q2 q3
   go_upto_region 22 with fail
   refine wp_over (fun V=>Hid (V.heap[w3.heap.size]? =some (.cells #[.int .i64 hol,.int .i64 vlt,.string str,.int .i64 ix,.int .i64 sz,.int .i64 day,.int .i64 ser,.int .i64 cnt,.int .i64 pl,.string root,.slice ap n1 c1,.int .i64 si,.slice aq n2 c2,.slice ar n3 c3] 47 (0,0)))∧Hid (Below w3.heap.size w3 V)∧Hid (V.heap.size=w3.heap.size+1)) ⟨heap_alloc_new _ _,(Below.refl _ _).alloc (Nat.le_refl _) _,by show _=_;simp⟩ ?_
   rintro X2 ⟨HG2,HXB,HXS2⟩
   have HBX2:Hid (Below X.heap.size X X2):=hid (HB3.o.trans (HXB.o.mono HB3.o.size))
   have HOKRX:=hid (HOKR.o.later HXB.o)
   obtain ⟨D2,hD⟩:=ex_eq w3.heap.size
   rw [hD] at HG2 HXS2 ⊢
   clear hD HXB HB3 HOKR
   have HW2:Hid (Below wr.heap.size wr X2):=hid (HBX.o.trans (HBX2.o.mono HBX.o.size))
   obtain ⟨q2,q3⟩:=HCB.o X2 HW2.o
   go_upto_region 23 with fail
   go_at_call 46
   with_reducible refine (carried_gen O bk m k hk2 s HPW.o.1 t X2 (HBV.o _ HW2.o)).mono ?_
   rintro e X3 ⟨al,nl,cl,el,rfl,hcg,hb⟩
   have HCG:Hid (∀V,Below X3.heap.size X3 V→CarG V m s t al nl cl el):=hid (fun V h=>hcg.later h)
   have HBX3:=hid hb
   clear hcg hb q2 q3
   have HW3:Hid (Below wr.heap.size wr X3):=hid (HW2.o.trans (HBX3.o.mono HW2.o.size))
   have HV3:Hid (∀V,Below X3.heap.size X3 V→Below wr.heap.size wr V):=hid (fun V h=>HW3.o.trans (h.mono HW3.o.size))
   have HV2:Hid (∀V,Below X3.heap.size X3 V→Below X2.heap.size X2 V):=hid (fun V h=>HBX3.o.trans (h.mono HBX3.o.size))
   have HSP:Hid (∀V,Below X3.heap.size X3 V→(V.cell? ⟨P,0,none⟩=some (.string s)∧V.cell? ⟨P,1,none⟩=some (.int .i64 i))∧(V.cell? ⟨D1,0,none⟩=some (.int .i64 hol)∧V.cell? ⟨D1,1,none⟩=some (.int .i64 vlt)∧V.cell? ⟨D1,2,none⟩=some (.string str)∧V.cell? ⟨D1,3,none⟩=some (.int .i64 ix)∧V.cell? ⟨D1,4,none⟩=some (.int .i64 sz)∧V.cell? ⟨D1,5,none⟩=some (.int .i64 day)∧V.cell? ⟨D1,6,none⟩=some (.int .i64 ser)∧V.cell? ⟨D1,7,none⟩=some (.int .i64 cnt)∧V.cell? ⟨D1,8,none⟩=some (.int .i64 pl)∧V.cell? ⟨D1,9,none⟩=some (.string root)∧V.cell? ⟨D1,10,none⟩=some (.slice a6 n1 d6)∧V.cell? ⟨D1,11,none⟩=some (.int .i64 si)∧V.cell? ⟨D1,12,none⟩=some (.slice a7 n2 d7)∧V.cell? ⟨D1,13,none⟩=some (.slice a8 n3 d8))∧V.cell? ⟨D2,0,none⟩=some (.int .i64 hol)∧V.cell? ⟨D2,1,none⟩=some (.int .i64 vlt)∧V.cell? ⟨D2,2,none⟩=some (.string str)∧V.cell? ⟨D2,3,none⟩=some (.int .i64 ix)∧V.cell? ⟨D2,4,none⟩=some (.int .i64 sz)∧V.cell? ⟨D2,5,none⟩=some (.int .i64 day)∧V.cell? ⟨D2,6,none⟩=some (.int .i64 ser)∧V.cell? ⟨D2,7,none⟩=some (.int .i64 cnt)∧V.cell? ⟨D2,8,none⟩=some (.int .i64 pl)∧V.cell? ⟨D2,9,none⟩=some (.string root)∧V.cell? ⟨D2,10,none⟩=some (.slice ap n1 c1)∧V.cell? ⟨D2,11,none⟩=some (.int .i64 si)∧V.cell? ⟨D2,12,none⟩=some (.slice aq n2 c2)∧V.cell? ⟨D2,13,none⟩=some (.slice ar n3 c3)):=hid (fun V h=>by
    have h2:=HV2.o V h
    have h1:Below X.heap.size X V:=HBX2.o.trans (h2.mono HBX2.o.size)
    exact ⟨HCB.o V (HV3.o V h),row14 ((h1.block D1 (by have:=HXS1.o;omega)).trans HG1.o),row14 ((h2.block D2 (by have:=HXS2.o;omega)).trans HG2.o)⟩)
   have HSM:Hid (∀V,Below X3.heap.size X3 V→Calls Tryz.prog 27 #[.agg #[.int .i64 hol,.int .i64 vlt,.string str,.int .i64 ix,.int .i64 sz,.int .i64 day,.int .i64 ser,.int .i64 cnt,.int .i64 pl,.string root,.slice a6 n1 d6,.int .i64 si,.slice a7 n2 d7,.slice a8 n3 d8],.agg #[.int .i64 hol,.int .i64 vlt,.string str,.int .i64 ix,.int .i64 sz,.int .i64 day,.int .i64 ser,.int .i64 cnt,.int .i64 pl,.string root,.slice ap n1 c1,.int .i64 si,.slice aq n2 c2,.slice ar n3 c3]] V fun e w'=>e= .returned (.bool true)∧Below V.heap.size V w'):=hid (fun V h=>by
    have h2:=HV2.o V h
    have h1:Below X.heap.size X V:=HBX2.o.trans (h2.mono HBX2.o.size)
    obtain ⟨_,_,_,g1,g2,g3⟩:=HOK6X.o.later h1
    obtain ⟨_,_,_,g4,g5,g6⟩:=HOKRX.o.later h2
    have l:=HLR.o
    have lk:=HKR.o
    have h3:=refSame43_any hol vlt str ix sz day ser cnt pl root a6 n1 d6 si a7 n2 d7 a8 n3 d8 pa pt sq hol vlt str ix sz day ser cnt pl root ap n1 c1 si aq n2 c2 ar n3 c3 pa pt sq V l.1 (by omega) g1 l.2.1 (by omega) g2 l.2.2 (by omega) g3 l.1 (by omega) g4 l.2.1 (by omega) g5 l.2.2 (by omega) g6 lk.1 lk.2.1 lk.2.2
    rwa [sameR_iff.2 rfl] at h3)
   have HOFL:Hid (∀(n:Nat) {ys:List RcV},ys.length=n∧ys.map RcV.r=ofB m ⟨s,i⟩→n≤100000):=hid (fun n ys h=>by
    have h1:=congrArg List.length h.2
    have h2:=List.length_filter_le (isPc ⟨s,i⟩) m
    have h3:=congrArg List.length HXS.o.2
    rw [List.length_map,h.1] at h1
    rw [List.length_map,HXS.o.1] at h3
    unfold ofB at h1
    omega)
   have hee:(er != er)=false:=bne_self_eq_false er
   go_upto_region 23 with fail
   have HDR:Hid (Below X3.heap.size X3 X3.drew):=hid (Below.refl _ _).drew
   obtain ⟨VD,hVD⟩:=ex_eq X3.drew
   rw [hVD] at HDR
   refine Kit.wp_region_gplan (fun V=>(V.cell? ⟨P,0,none⟩=some (.string s)∧V.cell? ⟨P,1,none⟩=some (.int .i64 i))∧(V.cell? ⟨D1,0,none⟩=some (.int .i64 hol)∧V.cell? ⟨D1,1,none⟩=some (.int .i64 vlt)∧V.cell? ⟨D1,2,none⟩=some (.string str)∧V.cell? ⟨D1,3,none⟩=some (.int .i64 ix)∧V.cell? ⟨D1,4,none⟩=some (.int .i64 sz)∧V.cell? ⟨D1,5,none⟩=some (.int .i64 day)∧V.cell? ⟨D1,6,none⟩=some (.int .i64 ser)∧V.cell? ⟨D1,7,none⟩=some (.int .i64 cnt)∧V.cell? ⟨D1,8,none⟩=some (.int .i64 pl)∧V.cell? ⟨D1,9,none⟩=some (.string root)∧V.cell? ⟨D1,10,none⟩=some (.slice a6 n1 d6)∧V.cell? ⟨D1,11,none⟩=some (.int .i64 si)∧V.cell? ⟨D1,12,none⟩=some (.slice a7 n2 d7)∧V.cell? ⟨D1,13,none⟩=some (.slice a8 n3 d8))∧V.cell? ⟨D2,0,none⟩=some (.int .i64 hol)∧V.cell? ⟨D2,1,none⟩=some (.int .i64 vlt)∧V.cell? ⟨D2,2,none⟩=some (.string str)∧V.cell? ⟨D2,3,none⟩=some (.int .i64 ix)∧V.cell? ⟨D2,4,none⟩=some (.int .i64 sz)∧V.cell? ⟨D2,5,none⟩=some (.int .i64 day)∧V.cell? ⟨D2,6,none⟩=some (.int .i64 ser)∧V.cell? ⟨D2,7,none⟩=some (.int .i64 cnt)∧V.cell? ⟨D2,8,none⟩=some (.int .i64 pl)∧V.cell? ⟨D2,9,none⟩=some (.string root)∧V.cell? ⟨D2,10,none⟩=some (.slice ap n1 c1)∧V.cell? ⟨D2,11,none⟩=some (.int .i64 si)∧V.cell? ⟨D2,12,none⟩=some (.slice aq n2 c2)∧V.cell? ⟨D2,13,none⟩=some (.slice ar n3 c3)) [(true,0),(true,1),(true,2),(true,3),(true,4),(true,5),(false,6),(true,7),(true,8),(true,9),(true,10),(true,11),(true,13),(true,14),(false,12),(false,15),(false,16),(true,17),(true,18)] (by kernel_rfl) (by kernel_rfl) (by kernel_rfl) (by kernel_rfl) (by rw [hVD];exact HSP.o _ HDR.o) ?_
   rw [hVD]
   clear hVD
   iterate 6 (refine Kit.ghd (h:= ?_))
   refine Kit.gplan_op (by rfl) (by rfl) fun K hK=> ?_
   go_simp
   go_at_call 27
   with_reducible refine (HSM.o _ HDR.o).mono ?_
   rintro e y1 ⟨rfl,hb⟩
   have Hy1:Hid (Below X3.heap.size X3 y1):=hid (HDR.o.trans (hb.mono HDR.o.size))
   clear hb
   refine hK _ _ (HSP.o _ Hy1.o) ?_
   clear hK K
   iterate 7 (refine Kit.ghd (h:= ?_))
   refine Kit.gplan_op (by rfl) (by rfl) fun K hK=> ?_
   go_simp
   go_at_call 47
   with_reducible refine (of_any O bk m k hk2 s i HPW.o.1 HPW.o.2 _ (HBV.o _ (HV3.o _ Hy1.o))).mono ?_
   rintro e y2 ⟨v1,rfl,n8,zs,ho,hf,hb⟩
   have Hy2:Hid (Below X3.heap.size X3 y2):=hid (Hy1.o.trans (hb.mono Hy1.o.size))
   obtain ⟨av,cv,rfl,hrc⟩:=ho.rcsO
   have HRC2:Hid (∀V,Below y2.heap.size y2 V→RcsAt V av zs):=hid (fun V h=>hrc.later h)
   have HYN:Hid (zs.length=n8∧zs.map RcV.r=ofB m ⟨s,i⟩):=hid ⟨ho.2.1,hf⟩
   clear hrc ho hf
   clear hb
   refine hK _ _ (HSP.o _ Hy2.o) ?_
   clear hK K
   refine Kit.gplan_op (by rfl) (by rfl) fun K hK=> ?_
   go_simp
   go_at_call 48
   with_reducible refine (refOf_any am cm nm xs HXS.o.1 hn2 s i _ (HXV.o _ (HV3.o _ Hy2.o))).mono ?_
   rintro e y3 ⟨v2,rfl,n9,ws,hd,hf,_,hb⟩
   have Hy3:Hid (Below X3.heap.size X3 y3):=hid (Hy2.o.trans (hb.mono Hy2.o.size))
   have HY23:Hid (Below y2.heap.size y2 y3):=hid hb
   obtain ⟨aw,cw,rfl,hrc,_⟩:=hd.rcs
   have HRC3:Hid (RcsAt y3 aw ws):=hid hrc
   have HZN:Hid (ws.length=n9∧ws.map RcV.r=ofB m ⟨s,i⟩):=hid ⟨hd.2.1,by rw [hf,HXS.o.2]⟩
   clear hrc hd hf
   clear hb
   refine hK _ _ (HSP.o _ Hy3.o) ?_
   clear hK K
   refine Kit.gplan_op (by rfl) (by rfl) fun K hK=> ?_
   go_simp
   go_at_call 21
   with_reducible refine (sameAll_eq HG.o HYN.o.2 HZN.o.2 mem_ofB HYN.o.1 HZN.o.1 (HOFL.o _ HYN.o) (HRC2.o _ HY23.o) HRC3.o).mono ?_
   rintro e y4 ⟨rfl,hb⟩
   have Hy4:Hid (Below X3.heap.size X3 y4):=hid (Hy3.o.trans (hb.mono Hy3.o.size))
   clear hb
   refine hK _ _ (HSP.o _ Hy4.o) ?_
   clear hK K
   iterate 2 (refine Kit.ghd (h:= ?_))
   refine Kit.gdn (h:=?_)
   have HR4:=hid (HV3.o _ Hy4.o)
   have HCG4:=hid (HCG.o _ Hy4.o)
   have HE4:Hid (∀V,Below y4.heap.size y4 V→Below w.heap.size w V):=hid (fun V h=>HB1.o.trans ((HR.o.trans ((HR4.o.trans (h.mono HR4.o.size)).mono HNR.o)).mono (by have:=HNW.o;omega)))
   obtain ⟨q2,q3⟩:=(HSP.o _ Hy4.o).1
   clear HSM HRC2 HRC3 HYN HZN HY23 HCG HSP HOFL
   have hcg:=HCG4.o
   rcases hcg with ⟨ht,rfl,rfl,rfl,rfl⟩ | ⟨n,bo,rfl,ht1,ht2,rfl,rfl,rfl,rfl,hcl⟩
   ·by_cases ht1:t<1
    ·go_wp2_with fail
     go_ret
     exact ⟨rfl,HE4.o _ (Below.refl _ _)⟩
    ·have ht2:16<t:=by omega
     go_wp2_with fail
     go_ret
     exact ⟨rfl,HE4.o _ (Below.refl _ _)⟩
   have HCL:=hid hcl
   clear hcl
   have ht1i: ¬(n:Int)<1:=by omega
   have ht2i: ¬(16:Int)<(n:Int):=by omega
   go_upto_region 27 with fail
   have h5:=refCarried_ok am cm nm xs HXS.o.1 hn2 s n ht1 ht2 y4 (HXV.o _ HR4.o)
   rw [HXS.o.2] at h5
   have H5:=hid h5
   clear h5
   go_wp2_with fail
   with_reducible refine H5.o.mono ?_
   rintro e y5 ⟨b2,c9,rfl,_,hcl,hb⟩
   have HCL2:=hid hcl
   have HB5:=hid hb
   have HCL3:Hid (∀i (h:i<(carB m s n).length),y5.cell? ⟨bo,i,none⟩=some (.int .i64 (carB m s n)[i])):=hid (fun i h=>(hb.cell (World.block_lt_of_cell? _ _ (HCL.o i h))).trans (HCL.o i h))
   clear hcl hb q2 q3
   go_wp2_with fail
   with_reducible refine (refSameInts_ok bo b2 n c9 n (carB m s n) (by simp [carB]) (by omega) y5 HCL3.o HCL2.o).mono ?_
   rintro e y6 ⟨rfl,hb⟩
   have HB6:=hid hb
   clear hb
   go_wp2_with fail
   go_ret
   exact ⟨rfl,HE4.o _ (HB5.o.trans (HB6.o.mono HB5.o.size))⟩
  have hki:(k:Int)<(L:Int):=by omega
  have HKL:Hid (k<ys.length):=hid (by have:=HL.o;omega)
  have HWR:Hid (Below w.heap.size w wr):=hid (HB1.o.trans (HR.o.mono (by have:=HNW.o;omega)))
  obtain ⟨b,o,rfl,hcs⟩:=(HS.o.later HWR.o).cell (fun e=>by have:=HKL.o;rw [e] at this;simp at this)
  have hc:=hcs k HKL.o
  have HYK:=hid (HS.o.2 _ (List.getElem_mem HKL.o)).1
  have HST0:=hid (HSW.o _ (List.getElem_mem HKL.o))
  obtain ⟨y,hy⟩:=ex_eq (ys[k]'HKL.o)
  rw [hy] at hc HYK HST0
  clear hy hcs
  obtain ⟨⟨⟨hol,vlt,str,ix,sz,day,ser,cnt,pl,root,pa,si,pt,sq⟩,ap,c1,aq,c2,ar,c3⟩,dr⟩:=y
  have HIN:Hid (∀q,(⟨⟨hol,vlt,str,ix,sz,day,ser,cnt,pl,root,pa,si,pt,sq⟩,ap,c1,aq,c2,ar,c3⟩:RcV).blk q→q<N):=hid (fun q hq=>by have h1:=HYK.o.blk_lt hq;have:=HNW.o;omega)
  obtain ⟨n1,e1⟩:=ex_eq pa.length
  obtain ⟨n2,e2⟩:=ex_eq pt.length
  obtain ⟨n3,e3⟩:=ex_eq sq.length
  have HLN:Hid (pa.length=n1∧pt.length=n2∧sq.length=n3):=hid ⟨e1,e2,e3⟩
  have HST:Hid (str.size≤maxLen):=hid HST0.o
  have hyk:=HYK.o
  obtain ⟨k1,k2,k3,s1,s2,s3⟩:=hyk
  simp only at k1 k2 k3 s1 s2 s3
  rw [e1] at k1
  rw [e2] at k2
  rw [e3] at k3
  have HNN:Hid (n1<9223372036854775808∧n2<9223372036854775808∧n3<9223372036854775808):=hid ⟨k1,k2,k3⟩
  have HSV:Hid (∀V,Below wr.heap.size wr V→StrsAt V ap pa∧StrsAt V aq pt∧StrsAt V ar sq):=hid (fun V h=>by
   have h1:=HWR.o.trans (h.mono HWR.o.size)
   exact ⟨s1.later h1,s2.later h1,s3.later h1⟩)
  simp only [OpB.cells,RcV.cells,e1,e2,e3] at hc
  have HCS:Hid (∀V,Below wr.heap.size wr V→V.cell? ⟨b,o+k*15,none⟩=some (.int .i64 hol)∧V.cell? ⟨b,o+k*15+1,none⟩=some (.int .i64 vlt)∧V.cell? ⟨b,o+k*15+2,none⟩=some (.string str)∧V.cell? ⟨b,o+k*15+3,none⟩=some (.int .i64 ix)∧V.cell? ⟨b,o+k*15+4,none⟩=some (.int .i64 sz)∧V.cell? ⟨b,o+k*15+5,none⟩=some (.int .i64 day)∧V.cell? ⟨b,o+k*15+6,none⟩=some (.int .i64 ser)∧V.cell? ⟨b,o+k*15+7,none⟩=some (.int .i64 cnt)∧V.cell? ⟨b,o+k*15+8,none⟩=some (.int .i64 pl)∧V.cell? ⟨b,o+k*15+9,none⟩=some (.string root)∧V.cell? ⟨b,o+k*15+10,none⟩=some (.slice ap n1 c1)∧V.cell? ⟨b,o+k*15+11,none⟩=some (.int .i64 si)∧V.cell? ⟨b,o+k*15+12,none⟩=some (.slice aq n2 c2)∧V.cell? ⟨b,o+k*15+13,none⟩=some (.slice ar n3 c3)∧V.cell? ⟨b,o+k*15+14,none⟩=some (.bool dr)):=hid (fun V h=>by
   have f: ∀{ad:Addr} {u:Value},wr.cell? ad=some u→V.cell? ad=some u:=fun hu=>(h.cell (World.block_lt_of_cell? _ _ hu)).trans hu
   exact ⟨f (hc 0 (by decide)),f (hc 1 (by decide)),f (hc 2 (by decide)),f (hc 3 (by decide)),f (hc 4 (by decide)),f (hc 5 (by decide)),f (hc 6 (by decide)),f (hc 7 (by decide)),f (hc 8 (by decide)),f (hc 9 (by decide)),f (hc 10 (by decide)),f (hc 11 (by decide)),f (hc 12 (by decide)),f (hc 13 (by decide)),f (hc 14 (by decide))⟩)
  clear hc e1 e2 e3 k1 k2 k3 s1 s2 s3 HYK HST0
  cases dr
  rotate_left
  ·have HRF:=hid (refRelease_any am cm nm xs HXS.o.1 (by omega) str wr HDX.o)
   obtain ⟨r0,r1,r2,r3,r4,r5,r6,r7,r8,r9,r10,r11,r12,r13,r14⟩:=HCS.o wr (Below.refl _ _)
   go_upto_region 11 with fail
   go_at_call 39
   with_reducible refine HRF.o.mono ?_
   rintro e w2 ⟨v2,rfl,n9,zs,hd,hf,hmem,hb⟩
   have HB2:=hid hb
   have HZ:Hid (zs.length=n9∧zs.map RcV.r=relB m str):=hid ⟨hd.2.1,by rw [hf,HXS.o.2]⟩
   have HMEM:=hid hmem
   obtain ⟨az,cz,rfl,hrc,hcz,hnz⟩:=hd.rcs2
   have HBZ:Hid (∀ad,az=some ad→wr.heap.size≤ad.block∧ad.block<w2.heap.size):=hid (fun ad e=>by subst e;exact hd.blk)
   have HRZ:=hid hrc
   have HCZ:=hid (And.intro hcz hnz)
   have HLB:Hid (n9≤nm∧nm=m.length):=hid (by
    have h1:=congrArg List.length HZ.o.2
    have h2:=List.length_filter_le (fun x=> !decide (x.str=str)) m
    have h3:=congrArg List.length HXS.o.2
    rw [List.length_map,HZ.o.1] at h1
    rw [List.length_map,HXS.o.1] at h3
    unfold relB at h1
    omega)
   clear hb hf hmem hd hrc hcz hnz HRF r0 r1 r2 r3 r4 r5 r6 r7 r8 r9 r10 r11 r12 r13 r14
   have HBK2:=hid (HBK.o.later HB2.o)
   have HN2:Hid (N≤w2.heap.size):=hid (Nat.le_trans HNR.o HB2.o.size)
   have HR2:Hid (Below N w1 w2):=hid (HR.o.trans (HB2.o.mono HNR.o))
   obtain ⟨r0,r1,r2,r3,r4,r5,r6,r7,r8,r9,r10,r11,r12,r13,r14⟩:=HCS.o w2 HB2.o
   go_upto_region 13 with fail
   go_at_call 40
   with_reducible refine (release_any O bk m k (by omega) str HST.o w2 HBK2.o).mono ?_
   rintro e w3 ⟨rfl,hB3,hC3⟩
   have HBS4:Hid (BkS w1 N bk w3 (k+1) (.slice az n9 cz)):=hid (BkS.step HR2.o HN2.o hC3 HON.o (hB3.mono (Nat.le_succ k)) (fun q h=> .inl h) HRZ.o HZ.o.1 HZ.o.2 HCZ.o.1 HCZ.o.2 (fun ad e=>⟨fun h=>by have h1:=HBK.o.lt _ h;have h2:=(HBZ.o ad e).1;omega,(HBZ.o ad e).2⟩) (fun x hx q hq=>HAX.o x (HMEM.o x hx) q hq))
   have HN4:Hid (N≤w3.heap.size):=hid (Nat.le_trans HN2.o hC3.size)
   have hDe:((m.length - (relB m str).length:Nat):Int)=(nm:Int) - (n9:Int):=by
    have h1:=congrArg List.length HZ.o.2
    rw [List.length_map,HZ.o.1] at h1
    have:=HLB.o
    omega
   obtain ⟨D,hD⟩:=ex_eq ((m.length - (relB m str).length:Nat):Int)
   rw [hD] at hDe ⊢
   have hw:wrap64 ((nm:Int) - (n9:Int))=D:=by
    rw [hDe]
    have:=HLB.o
    have h3:nm≤20:=by omega
    exact IntWalk.wrap64_in _ ⟨by omega,by omega⟩
   have hne:(D != D)=false:=bne_self_eq_false D
   clear hB3 hC3 hDe hD HBK2 r0 r1 r2 r3 r4 r5 r6 r7 r8 r9 r10 r11 r12 r13 r14
   go_upto_region 19 with fail
   go_at_call 43
   have hbs:=HBS4.o
   obtain ⟨O4,m4,am4,nm4,cm4,xs4,e4,g1,g2,g3,g4,_,_,_,_,_,g10⟩:=hbs
   injection e4 with e41 e42 e43
   subst e41 e42 e43
   with_reducible refine (same43_ok O4 bk m4 (k+1) (by omega) _ _ _ xs4 g3 (by have h1:=congrArg List.length g4;have h2:=g1.len;rw [List.length_map] at h1;omega) g4 _ g1 g2).mono ?_
   rintro e w5 ⟨rfl,hb⟩
   have HBS5:=hid (HBS4.o.later HN4.o hb)
   clear hb g1 g2 g3 g4 g10
   go_wp2_with fail
   go_roundw
   case rel=>exact ⟨k+1,hlt,by go_num,HBS5⟩
   case measure=>simp [intOf];omega
  have hAD:=refAdd_any am cm nm xs HXS.o.1 (by omega) HCM.o.1 HCM.o.2 hol vlt str ix sz day ser cnt pl root ap n1 c1 si aq n2 c2 ar n3 c3 pa pt sq wr HLN.o.1 HNN.o.1 (HSV.o wr (Below.refl _ _)).1 HLN.o.2.1 HNN.o.2.1 (HSV.o wr (Below.refl _ _)).2.1 HLN.o.2.2 HNN.o.2.2 (HSV.o wr (Below.refl _ _)).2.2 HDX.o
  rw [HXS.o.2,addB_eq HG.o] at hAD
  obtain ⟨E,hE⟩:=ex_eq (addP m ⟨hol,vlt,str,ix,sz,day,ser,cnt,pl,root,pa,si,pt,sq⟩).2
  rw [hE] at hAD
  have HEE:=hid hE
  have HAD:=hid hAD
  clear hAD hE
  obtain ⟨r0,r1,r2,r3,r4,r5,r6,r7,r8,r9,r10,r11,r12,r13,r14⟩:=HCS.o wr (Below.refl _ _)
  go_upto_region 15 with fail
  go_at_call 41
  with_reducible refine HAD.o.mono ?_
  rintro e w2 ⟨az,n9,cz,zs,rfl,hzl,hzm,hrc,hcz,hnz,hmem,hblk,hb⟩
  have HB2:=hid hb
  have HZ:Hid (zs.length=n9∧zs.map RcV.r=(addP m ⟨hol,vlt,str,ix,sz,day,ser,cnt,pl,root,pa,si,pt,sq⟩).1):=hid ⟨hzl,hzm⟩
  have HMEM:=hid hmem
  have HBZ:Hid (∀ad,az=some ad→ ¬O ad.block∧ad.block<w2.heap.size):=hid (fun ad e=>by
   rcases hblk with h | ⟨ad2,h,h1,h2⟩
   ·have h3:=HAM.o ad (h.symm.trans e)
    exact ⟨h3.1,Nat.lt_of_lt_of_le h3.2 hb.size⟩
   ·rw [h] at e
    injection e with e
    subst e
    exact ⟨fun h3=>by have h4:=HBK.o.lt _ h3;omega,h2⟩)
  have HRZ:=hid hrc
  have HCZ:=hid (And.intro hcz hnz)
  clear hb hzl hzm hrc hcz hnz hmem hblk HAD r0 r1 r2 r3 r4 r5 r6 r7 r8 r9 r10 r11 r12 r13 r14
  have HBK2:=hid (HBK.o.later HB2.o)
  have HN2:Hid (N≤w2.heap.size):=hid (Nat.le_trans HNR.o HB2.o.size)
  have HR2:Hid (Below N w1 w2):=hid (HR.o.trans (HB2.o.mono HNR.o))
  have hPA:=add_any O bk m k (by omega) hol vlt str ix sz day ser cnt pl root ap n1 c1 si aq n2 c2 ar n3 c3 pa pt sq w2 HLN.o.1 HNN.o.1 (HSV.o w2 HB2.o).1 HLN.o.2.1 HNN.o.2.1 (HSV.o w2 HB2.o).2.1 HLN.o.2.2 HNN.o.2.2 (HSV.o w2 HB2.o).2.2 HBK2.o
  rw [HEE.o] at hPA
  have HPA:=hid hPA
  clear hPA
  obtain ⟨r0,r1,r2,r3,r4,r5,r6,r7,r8,r9,r10,r11,r12,r13,r14⟩:=HCS.o w2 HB2.o
  go_upto_region 17 with fail
  go_at_call 42
  with_reducible refine HPA.o.mono ?_
  rintro e w3 ⟨rfl,⟨O3,hB3,hO3,_⟩,hC3⟩
  have HBS4:Hid (BkS w1 N bk w3 (k+1) (.slice az n9 cz)):=hid (BkS.step HR2.o HN2.o hC3 HON.o hB3 hO3 HRZ.o HZ.o.1 HZ.o.2 HCZ.o.1 HCZ.o.2 HBZ.o (fun x hx q hq h=>by
   rcases HMEM.o x hx with h1 | h1
   ·exact HAX.o x h1 q hq h
   ·subst h1
    have h2:=HIN.o q hq
    have h3:=HON.o q h
    omega))
  have HN4:Hid (N≤w3.heap.size):=hid (Nat.le_trans HN2.o hC3.size)
  have hne:(E != E)=false:=bne_self_eq_false E
  clear hB3 hO3 hC3 HPA HBK2 r0 r1 r2 r3 r4 r5 r6 r7 r8 r9 r10 r11 r12 r13 r14
  go_upto_region 19 with fail
  go_at_call 43
  have hbs:=HBS4.o
  obtain ⟨O4,m4,am4,nm4,cm4,xs4,e4,g1,g2,g3,g4,_,_,_,_,_,g10⟩:=hbs
  injection e4 with e41 e42 e43
  subst e41 e42 e43
  with_reducible refine (same43_ok O4 bk m4 (k+1) (by omega) _ _ _ xs4 g3 (by have h1:=congrArg List.length g4;have h2:=g1.len;rw [List.length_map] at h1;omega) g4 _ g1 g2).mono ?_
  rintro e w5 ⟨rfl,hb⟩
  have HBS5:=hid (HBS4.o.later HN4.o hb)
  clear hb g1 g2 g3 g4 g10
  go_wp2_with fail
  go_roundw
  case rel=>exact ⟨k+1,hlt,by go_num,HBS5⟩
  case measure=>simp [intOf];omega
end Go.Proofs.YtndlihclgdkpaaaGreatDoor
