/- Texts Qen, Qmr, Qmv, merged. -/
import Derived.Test.YtndlihclgdkpaaaGreatDoorQva
import Derived.Test.YtndlihclgdkpaaaGreatDoorGc
import Derived.Test.YtndlihclgdkpaaaGreatDoorGe
import Derived.Test.YtndlihclgdkpaaaGreatDoorGg
import Derived.Test.YtndlihclgdkpaaaGreatDoorGh
import Derived.Test.YtndlihclgdkpaaaGreatDoorGi
/- receipt: the signed fields, leaves, batches and encodings. -/
set_option linter.unusedVariables false
set_option linter.unusedSimpArgs false
open Go.Lib (hid)
set_option maxHeartbeats 4000000
set_option maxRecDepth 100000
namespace Go.Proofs.YtndlihclgdkpaaaGreatDoor
open Go.RowKit
open Kit (Chg)
open Sha (v)
open Go.Proofs.YtndlihclgdkpaaaGreatDoor.One

structure SgV (r:Rc):Prop where
 h0:0≤r.hol
 h1:r.hol≤11
 gd:GoodP r.vlt r.str r.ix r.sz
 d0:0≤r.day
 d1:r.day≤999999
 s0:0≤r.ser
 s1:r.ser≤1099511627776
theorem ValidR.sgv {r:Rc} (h:ValidR r):SgV r:=⟨h.h0,h.h1,h.gd,h.d0,h.d1,h.s0,h.s1⟩
theorem encS_lenV {r:Rc} (h:SgV r):(encS r).length≤100:=by
 have h1:=num_len40 (n:=r.hol.toNat) (by have:=h.h1;omega)
 have h2:=num_len40 (n:=r.vlt.toNat) (by have:=h.gd.v1;omega)
 have h3:=num_len40 (n:=r.ix.toNat) (by have:=h.gd.i1;omega)
 have h4:=num_len40 (n:=r.sz.toNat) (by have:=h.gd.s1;omega)
 have h5:=num_len40 (n:=r.day.toNat) (by have:=h.d1;omega)
 have h6:=num_len40 (n:=r.ser.toNat) (by have:=h.s1;omega)
 have h7:=nb_length r.str
 have h8:=h.gd.st
 unfold encS encS.headN
 simp only [List.length_append,List.flatMap_cons,List.flatMap_nil,List.length_nil]
 omega
theorem encS_cat (d0 d1:Nat) (str:ByteArray) (d2 d3 d4 d5:Nat) (cnt pl:Int) (root:ByteArray) (pa:List ByteArray) (si:Int) (pt sq:List ByteArray):num d0++num d1++nb str++headE ([d2,d3,d4,d5].take 4)=encS ⟨(d0:Int),(d1:Int),str,(d2:Int),(d3:Int),(d4:Int),(d5:Int),cnt,pl,root,pa,si,pt,sq⟩:=by
 unfold encS encS.headN headE
 simp
theorem writeSigned_ok (hol vlt:Int) (str:ByteArray) (ix sz day ser cnt pl:Int) (root:ByteArray) (ap:Option Addr) (n1 c1:Nat) (si:Int) (aq:Option Addr) (n2 c2:Nat) (ar:Option Addr) (n3 c3:Nat) (pa pt sq:List ByteArray) (hv:SgV ⟨hol,vlt,str,ix,sz,day,ser,cnt,pl,root,pa,si,pt,sq⟩) (g:Nat) (w:World) (hg:w.heap[g]? =some (.cells #[.slice none 0 0,.int .i64 0] 265 (0,0))):
    Calls Tryz.prog 104 #[.pointer (some ⟨g,0,none⟩),.agg #[.int .i64 hol,.int .i64 vlt,.string str,.int .i64 ix,.int .i64 sz,.int .i64 day,.int .i64 ser,.int .i64 cnt,.int .i64 pl,.string root,.slice ap n1 c1,.int .i64 si,.slice aq n2 c2,.slice ar n3 c3]] w fun e w'=>e= .returned (.tuple #[])∧WrAt w' g (w.heap.size+1) (encS ⟨hol,vlt,str,ix,sz,day,ser,cnt,pl,root,pa,si,pt,sq⟩)∧Chg (fun q _=>q=g) w w':=by
 obtain ⟨d0,rfl⟩: ∃n:Nat,hol=(n:Int):=⟨hol.toNat,by have:=hv.h0;simp only at this;omega⟩
 obtain ⟨d1,rfl⟩: ∃n:Nat,vlt=(n:Int):=⟨vlt.toNat,by have:=hv.gd.v0;simp only at this;omega⟩
 obtain ⟨d2,rfl⟩: ∃n:Nat,ix=(n:Int):=⟨ix.toNat,by have:=hv.gd.i0;simp only at this;omega⟩
 obtain ⟨d3,rfl⟩: ∃n:Nat,sz=(n:Int):=⟨sz.toNat,by have:=hv.gd.s0;simp only at this;omega⟩
 obtain ⟨d4,rfl⟩: ∃n:Nat,day=(n:Int):=⟨day.toNat,by have:=hv.d0;simp only at this;omega⟩
 obtain ⟨d5,rfl⟩: ∃n:Nat,ser=(n:Int):=⟨ser.toNat,by have:=hv.s0;simp only at this;omega⟩
 have HQ0:Hid (d0≤11∧d1≤11∧str.size=32):=hid ⟨by have:=hv.h1;simp only at this;omega,by have:=hv.gd.v1;simp only at this;omega,hv.gd.st⟩
 have HQ:Hid (∀x ∈ [d2,d3,d4,d5],x≤1099511627776):=hid (by
  have h1:=hv.gd.i1
  have h2:=hv.gd.s1
  have h3:=hv.d1
  have h4:=hv.s1
  simp only at h1 h2 h3 h4
  intro x hx
  simp only [List.mem_cons,List.not_mem_nil,or_false] at hx
  rcases hx with rfl | rfl | rfl | rfl<;> omega)
 have HT:=hid (encS_cat d0 d1 str d2 d3 d4 d5 cnt pl root pa si pt sq)
 obtain ⟨T,hT⟩:=ex_eq (encS ⟨(d0:Int),(d1:Int),str,(d2:Int),(d3:Int),(d4:Int),(d5:Int),cnt,pl,root,pa,si,pt,sq⟩)
 rw [hT] at HT ⊢
 have HGW:=hid hg
 have HGS:Hid (g<w.heap.size):=hid (gS hg).1
 have hwu0:IntKind.u64.wrap (d0:Int)=(d0:Int):=by have:=HQ0.o.1;rw [IntKind.wrap_u64];omega
 have hwu1:IntKind.u64.wrap (d1:Int)=(d1:Int):=by have:=HQ0.o.2.1;rw [IntKind.wrap_u64];omega
 clear hT hg hv
 go_enter Tryz.func104,Tryz.ntmps104
 go_upto_region 1 with fail
 refine wp_over (fun W=>Hid (W.heap[w.heap.size]? =some (.cells #[.int .i64 (d0:Int),.int .i64 (d1:Int),.string str,.int .i64 (d2:Int),.int .i64 (d3:Int),.int .i64 (d4:Int),.int .i64 (d5:Int),.int .i64 cnt,.int .i64 pl,.string root,.slice ap n1 c1,.int .i64 si,.slice aq n2 c2,.slice ar n3 c3] 47 (0,0)))∧Hid (Below w.heap.size w W)∧Hid (W.heap.size=w.heap.size+1)) ⟨heap_alloc_new _ _,(Below.refl _ _).alloc (Nat.le_refl _) _,by show _=_;simp⟩ ?_
 rintro W ⟨HG,HB,HWS⟩
 have HBW0:Hid (∀V,Below (w.heap.size+1) W V→Below w.heap.size w V):=hid (fun V h=>HB.o.trans (h.mono (Nat.le_succ _)))
 obtain ⟨N,hN⟩:=ex_eq w.heap.size
 have HN:=hid hN
 have HBW:Hid (∀V,Below (N+1) W V→Below w.heap.size w V):=hid (fun V h=>HBW0.o V (by rw [hN];exact h))
 rw [hN] at HG HB HWS ⊢
 clear hN HBW0
 have HGN:Hid (g<N):=hid (by rw [← HN.o];exact HGS.o)
 have HW0:Hid (WrAt W g (N+1) []):=hid (WrAt.start ((HB.o.block g HGN.o).trans HGW.o) (Nat.lt_succ_of_lt HGN.o) (Nat.le_of_eq HWS.o.symm))
 have HCC:Hid (∀V,Chg (WrM g (N+1)) W V→V.cell? ⟨N,0,none⟩=some (.int .i64 (d0:Int))∧V.cell? ⟨N,1,none⟩=some (.int .i64 (d1:Int))∧V.cell? ⟨N,2,none⟩=some (.string str)∧V.cell? ⟨N,3,none⟩=some (.int .i64 (d2:Int))∧V.cell? ⟨N,4,none⟩=some (.int .i64 (d3:Int))∧V.cell? ⟨N,5,none⟩=some (.int .i64 (d4:Int))∧V.cell? ⟨N,6,none⟩=some (.int .i64 (d5:Int))∧V.cell? ⟨N,7,none⟩=some (.int .i64 cnt)∧V.cell? ⟨N,8,none⟩=some (.int .i64 pl)∧V.cell? ⟨N,9,none⟩=some (.string root)∧V.cell? ⟨N,10,none⟩=some (.slice ap n1 c1)∧V.cell? ⟨N,11,none⟩=some (.int .i64 si)∧V.cell? ⟨N,12,none⟩=some (.slice aq n2 c2)∧V.cell? ⟨N,13,none⟩=some (.slice ar n3 c3)):=hid (fun V h=>row14 ((h.other N (by rw [HWS.o];exact Nat.lt_succ_self _) (fun i hm=>by have:=HGN.o;rcases hm with hm | hm<;> omega)).trans HG.o))
 have HL:Hid (Chg (WrM g (N+1)) W W):=hid (Chg.refl _ _)
 obtain ⟨q0,q1,q2,q3,q4,q5,q6,q7,q8,q9,q10,q11,q12,q13⟩:=HCC.o _ HL.o
 go_upto_region 2 with (first
  | (go_at_call 105
     (with_reducible refine (wrUint_ok g (N+1) [] d0 (by have:=HQ0.o.1;omega) (by decide) _ HW0.o).mono ?_)
     rintro e w2 ⟨rfl,hw,h2⟩
     have HWN:=hid (hw)
     have HM:=hid (HL.o.trans h2)
     clear hw h2 HL HW0 q0 q1 q2 q3 q4 q5 q6 q7 q8 q9 q10 q11 q12 q13
     have HL:=HM
     have HW0:=HWN
     clear HM HWN
     obtain ⟨q0,q1,q2,q3,q4,q5,q6,q7,q8,q9,q10,q11,q12,q13⟩:=HCC.o _ HL.o))
 go_upto_region 3 with (first
  | (go_at_call 105
     (with_reducible refine (wrUint_ok g (N+1) _ d1 (by have:=HQ0.o.2.1;omega) (by have:=num_len40 (n:=d0) (by have:=HQ0.o.1;omega);rw [List.nil_append];omega) _ HW0.o).mono ?_)
     rintro e w2 ⟨rfl,hw,h2⟩
     have HWN:=hid (hw)
     have HM:=hid (HL.o.trans h2)
     clear hw h2 HL HW0 q0 q1 q2 q3 q4 q5 q6 q7 q8 q9 q10 q11 q12 q13
     have HL:=HM
     have HW0:=HWN
     clear HM HWN
     obtain ⟨q0,q1,q2,q3,q4,q5,q6,q7,q8,q9,q10,q11,q12,q13⟩:=HCC.o _ HL.o))
 go_upto_region 4 with (first
  | (go_at_call 107
     (with_reducible refine (wrSum_ok g (N+1) _ str HQ0.o.2.2 (by have:=num_len40 (n:=d0) (by have:=HQ0.o.1;omega);have:=num_len40 (n:=d1) (by have:=HQ0.o.2.1;omega);rw [List.nil_append,List.length_append];omega) _ HW0.o).mono ?_)
     rintro e w2 ⟨rfl,hw,h2⟩
     have HWN:=hid (hw)
     have HM:=hid (HL.o.trans h2)
     clear hw h2 HL HW0 q0 q1 q2 q3 q4 q5 q6 q7 q8 q9 q10 q11 q12 q13
     have HL:=HM
     have HW0:=HWN
     clear HM HWN
     obtain ⟨q0,q1,q2,q3,q4,q5,q6,q7,q8,q9,q10,q11,q12,q13⟩:=HCC.o _ HL.o))
 rename World=>w5
 have HLB:Hid ((num d0++num d1++nb str).length≤100):=hid (by have:=num_len40 (n:=d0) (by have:=HQ0.o.1;omega);have:=num_len40 (n:=d1) (by have:=HQ0.o.2.1;omega);rw [List.length_append,List.length_append,nb_length,HQ0.o.2.2];omega)
 have HW5:Hid (WrAt w5 g (N+1) (num d0++num d1++nb str)):=hid (HW0.o.len (by rw [List.nil_append]))
 obtain ⟨bs3,hbs3⟩:=ex_eq (num d0++num d1++nb str)
 rw [hbs3] at HLB HW5 HT
 clear hbs3 HW0
 go_upto_region 5 with fail
 refine wp_over (fun V=>Hid (V.heap[w5.heap.size]? =some (.cells #[.int .i64 (d2:Int),.int .i64 (d3:Int),.int .i64 (d4:Int),.int .i64 (d5:Int)] 3 (0,0)))∧Hid (Below w5.heap.size w5 V)∧Hid (V.heap.size=w5.heap.size+1)) ⟨heap_alloc_new _ _,(Below.refl _ _).alloc (Nat.le_refl _) _,by show _=_;simp⟩ ?_
 rintro W4 ⟨HG4,HB4,HZ4⟩
 obtain ⟨k0,hk0,hx0⟩:=HW5.o.x
 have HW4:=hid (hx0 W4 HB4.o)
 have HK0:=hid hk0
 clear hk0 hx0 q0 q1 q2 q3 q4 q5 q6 q7 q8 q9 q10 q11 q12 q13
 have HN5:Hid (N+1≤w5.heap.size):=hid (by have:=HL.o.size;have:=HWS.o;omega)
 obtain ⟨X,hX⟩: ∃X:Nat→Prop,X=fun q=>q<W4.heap.size∧q≠g∧q≠k0:=⟨_,rfl⟩
 have HX4:Hid (X w5.heap.size):=hid (by rw [hX];exact ⟨by have:=HZ4.o;omega,by have:=HGN.o;have:=HN5.o;omega,by have:=HGN.o;have:=HN5.o;rcases HK0.o with h | h<;> omega⟩)
 have HXO:Hid (∀q,q≤N→q≠g→X q):=hid (fun q hq hn=>by rw [hX];exact ⟨by have:=HZ4.o;have:=HN5.o;omega,hn,by have:=HGN.o;rcases HK0.o with h | h<;> omega⟩)
 rw [← hX] at HW4
 clear hX HK0
 have HB54:Hid (Chg (WrM g (N+1)) W W4):=hid (HL.o.trans (Chg.of_below HB4.o))
 have HIN4:Hid (IntsAt W4 (some ⟨w5.heap.size,0,none⟩) [d2,d3,d4,d5]):=hid (ints_of_row (zs:=[d2,d3,d4,d5]) HG4.o)
 obtain ⟨N4,hN4⟩:=ex_eq w5.heap.size
 rw [hN4] at HG4 HIN4 HX4 ⊢
 have HZ5:Hid (N4<W4.heap.size):=hid (by have:=HZ4.o;omega)
 clear hN4 HZ4 HB4 HL HCC HN5
 have HI4:Hid (∀V,Chg (NotX X) W4 V→ ∀i,i<4→V.cell? ⟨N4,i,none⟩=some (.int .i64 (([d2,d3,d4,d5].getD i 0:Nat):Int))):=hid (fun V h i hi=>by
  rcases HIN4.o with h0 | ⟨b,o,e,h0⟩
  ·cases h0
  ·cases e
   have h1:=h0 i hi
   rw [Nat.zero_add] at h1
   exact h.cell h1 (fun hm=>hm HX4.o))
 go_loopw [5,32] (fun _ z wr=> ∃k:Nat,k≤4∧z= .int .i64 (k:Int)∧Hid (WrX wr g (N+1) X (bs3++headE ([d2,d3,d4,d5].take k)))∧Hid (Chg (NotX X) W4 wr)) (fun _ z _=>4 - (intOf z).toNat)
 case atStart=>exact ⟨0,by omega,rfl,hid (HW4.o.cat (by unfold headE;simp)),hid (Chg.refl _ _)⟩
 case round=>
  obtain ⟨k,hk,rfl,HWR,HBE⟩:=hrel
  by_cases hlt:k<4
  ·have hki:(k:Int)<4:=by omega
   have hck:=HI4.o _ HBE.o k hlt
   have HDK:Hid ([d2,d3,d4,d5].getD k 0≤1099511627776):=hid (HQ.o _ (getD_mem _ k 0 hlt))
   have HSN:=hid (headE_snoc [d2,d3,d4,d5] k hlt)
   have HHL:=hid (headE_len [d2,d3,d4,d5] HQ.o k)
   obtain ⟨d,hd⟩:=ex_eq ([d2,d3,d4,d5].getD k 0)
   rw [hd] at hck HDK HSN
   clear hd
   have hwu:IntKind.u64.wrap (d:Int)=(d:Int):=by have:=HDK.o;rw [IntKind.wrap_u64];omega
   go_wp2_with (first
    | (go_at_call 105
       (refine (wrUint_x g (N+1) X _ d (by have:=HDK.o;omega) (by rw [List.length_append];have:=HHL.o;have:=HLB.o;omega) wr HWR.o).mono ?_)
       rintro e w5 ⟨rfl,hw5,h5⟩
       have HW5:=hid (hw5.cat (show _=bs3++headE ([d2,d3,d4,d5].take (k+1)) by rw [HSN.o,List.append_assoc]))
       have H5:=hid (HBE.o.trans h5)
       clear hw5 h5))
   go_roundw
   case rel=>exact ⟨k+1,hlt,by go_num,HW5,H5⟩
   case measure=>simp [intOf];omega
  ·have hki: ¬(k:Int)<4:=by omega
   have hke:k=4:=by omega
   have HW6:Hid (WrAt wr g (N+1) T):=hid (by have h1:=HWR.o.at;rw [hke,HT.o] at h1;exact h1)
   clear hke
   go_wp2_with fail
   go_end0
   refine ⟨rfl,by rw [HN.o];exact HW6.o,?_⟩
   have e1:Chg (fun q _=>q=g) w W:=Chg.of_below (by rw [HN.o];exact HB.o)
   have e2:Chg (fun q i=>q=g∨N≤q) w wr:=(e1.mono (fun q i _ h=> .inl h)).trans ((HB54.o.mono (fun q i _ h=>by rcases h with h | h;exact .inl h;exact .inr (by omega))).trans (HBE.o.mono (fun q i _ h=>by
    by_cases hq:q≤N
    ·by_cases hg:q=g
     ·exact .inl hg
     ·exact absurd (HXO.o q hq hg) h
    ·exact .inr (by omega))))
   exact e2.mono (fun q i hq h=>by
    rcases h with h | h
    ·exact h
    ·have:=HN.o;omega)
theorem leafR_ok (hol vlt:Int) (str:ByteArray) (ix sz day ser cnt pl:Int) (root:ByteArray) (ap:Option Addr) (n1 c1:Nat) (si:Int) (aq:Option Addr) (n2 c2:Nat) (ar:Option Addr) (n3 c3:Nat) (pa pt sq:List ByteArray) (hv:SgV ⟨hol,vlt,str,ix,sz,day,ser,cnt,pl,root,pa,si,pt,sq⟩) (T:List Nat) (hT:leafR ⟨hol,vlt,str,ix,sz,day,ser,cnt,pl,root,pa,si,pt,sq⟩=T) (w:World) (hLd:Laid w):
    Calls Tryz.prog 89 #[.agg #[.int .i64 hol,.int .i64 vlt,.string str,.int .i64 ix,.int .i64 sz,.int .i64 day,.int .i64 ser,.int .i64 cnt,.int .i64 pl,.string root,.slice ap n1 c1,.int .i64 si,.slice aq n2 c2,.slice ar n3 c3]] w fun e w'=> ∃u:ByteArray,e= .returned (.string u)∧nb u=T∧u.size=32∧Below w.heap.size w w':=by
 have HWG:=hid (fun g w h=>writeSigned_ok hol vlt str ix sz day ser cnt pl root ap n1 c1 si aq n2 c2 ar n3 c3 pa pt sq hv g w h)
 have HEL:Hid ((encS ⟨hol,vlt,str,ix,sz,day,ser,cnt,pl,root,pa,si,pt,sq⟩).length≤100):=hid (encS_lenV hv)
 have HE0:Hid (0<(encS ⟨hol,vlt,str,ix,sz,day,ser,cnt,pl,root,pa,si,pt,sq⟩).length):=hid (by unfold encS;simp only [List.length_append,nb_length,hv.gd.st];omega)
 have HT:Hid (Mrk.leaf (encS ⟨hol,vlt,str,ix,sz,day,ser,cnt,pl,root,pa,si,pt,sq⟩)=T):=hid hT
 have HLD:=hid hLd
 obtain ⟨E,hE⟩:=ex_eq (encS ⟨hol,vlt,str,ix,sz,day,ser,cnt,pl,root,pa,si,pt,sq⟩)
 rw [hE] at HWG HEL HE0 HT
 clear hv hT hLd hE
 go_enter Tryz.func89,Tryz.ntmps89
 go_upto_region 1 with fail
 refine wp_over (fun W=>Hid (W.heap[w.heap.size]? =some (.cells #[.int .i64 hol,.int .i64 vlt,.string str,.int .i64 ix,.int .i64 sz,.int .i64 day,.int .i64 ser,.int .i64 cnt,.int .i64 pl,.string root,.slice ap n1 c1,.int .i64 si,.slice aq n2 c2,.slice ar n3 c3] 47 (0,0)))∧Hid (Below w.heap.size w W)∧Hid (W.heap.size=w.heap.size+1)) ⟨heap_alloc_new _ _,(Below.refl _ _).alloc (Nat.le_refl _) _,by show _=_;simp⟩ ?_
 rintro W ⟨HG,HB,HWS⟩
 have HBW0:Hid (∀V,Below (w.heap.size+1) W V→Below w.heap.size w V):=hid (fun V h=>HB.o.trans (h.mono (Nat.le_succ _)))
 obtain ⟨N,hN⟩:=ex_eq w.heap.size
 have HN:=hid hN
 have HBW:Hid (∀V,Below (N+1) W V→Below w.heap.size w V):=hid (fun V h=>HBW0.o V (by rw [hN];exact h))
 rw [hN] at HG HB HWS ⊢
 clear hN HBW0
 have HCC:Hid (∀V,Below (N+1) W V→V.cell? ⟨N,0,none⟩=some (.int .i64 hol)∧V.cell? ⟨N,1,none⟩=some (.int .i64 vlt)∧V.cell? ⟨N,2,none⟩=some (.string str)∧V.cell? ⟨N,3,none⟩=some (.int .i64 ix)∧V.cell? ⟨N,4,none⟩=some (.int .i64 sz)∧V.cell? ⟨N,5,none⟩=some (.int .i64 day)∧V.cell? ⟨N,6,none⟩=some (.int .i64 ser)∧V.cell? ⟨N,7,none⟩=some (.int .i64 cnt)∧V.cell? ⟨N,8,none⟩=some (.int .i64 pl)∧V.cell? ⟨N,9,none⟩=some (.string root)∧V.cell? ⟨N,10,none⟩=some (.slice ap n1 c1)∧V.cell? ⟨N,11,none⟩=some (.int .i64 si)∧V.cell? ⟨N,12,none⟩=some (.slice aq n2 c2)∧V.cell? ⟨N,13,none⟩=some (.slice ar n3 c3)):=hid (fun V h=>row14 ((h.block N (Nat.lt_succ_self _)).trans HG.o))
 have HST:Hid (∀V V',Below (N+1) W V→Below V.heap.size V V'→Below (N+1) W V'):=hid (fun V V' h h'=>h.trans (h'.mono (by have:=h.size;have:=HWS.o;omega)))
 have HL:Hid (Below (N+1) W W):=hid (Below.refl _ _)
 obtain ⟨q0,q1,q2,q3,q4,q5,q6,q7,q8,q9,q10,q11,q12,q13⟩:=HCC.o _ HL.o
 go_wp2_with (first
  | (go_at_call 103
     (with_reducible refine (newWriter_ok _).mono ?_)
     rintro e w3 ⟨g,rfl,hg3,hle3,h3⟩
     have HG3:=hid hg3
     have H3:Hid (Below (N+1) W w3):=hid (HST.o _ _ HL.o h3)
     have HGN:Hid (N+1≤g):=hid (by have:=HWS.o;omega)
     clear hg3 h3 hle3 q0 q1 q2 q3 q4 q5 q6 q7 q8 q9 q10 q11 q12 q13
     obtain ⟨q0,q1,q2,q3,q4,q5,q6,q7,q8,q9,q10,q11,q12,q13⟩:=HCC.o _ H3.o)
  | (go_at_call 104
     (with_reducible refine (HWG.o _ _ HG3.o).mono ?_)
     rintro e w4 ⟨rfl,hw4,h4⟩
     have HW4:=hid hw4
     have H4:Hid (Below (N+1) W w4):=hid (H3.o.trans (h4.below (by have:=H3.o.size;have:=HWS.o;omega) (fun k i hk hm=>by have:=HGN.o;omega)))
     clear hw4 h4 q0 q1 q2 q3 q4 q5 q6 q7 q8 q9 q10 q11 q12 q13)
  | (go_at_call 108
     (with_reducible refine (wrDone_ok g _ _ (by have:=HEL.o;omega) _ HW4.o).mono ?_)
     rintro e w5 ⟨ad,L,cap,rfl,hL5,hle5,hB5,hn5,hb5,h5⟩
     obtain ⟨bk,o,rfl,_⟩:=hB5.some HE0.o
     have HL5:=hid hL5
     have HLE5:=hid hle5
     have HB5:=hid hB5
     have H5:Hid (Below (N+1) W w5):=hid (HST.o _ _ H4.o h5)
     have HBK:Hid (bk<w5.heap.size):=hid (hB5.blk _ rfl (fun e=>by have:=HE0.o;rw [e] at this;simp at this))
     clear hL5 hle5 hB5 hn5 hb5 h5)
  | (go_at_call 83
     (with_reducible refine (leaf_l bk o cap E L HL5.o HLE5.o (by have:=HEL.o;have:=HL5.o;omega) _ HB5.o HBK.o (HLD.o.later (HBW.o _ H5.o) (Nat.le_refl _)) T HT.o).mono ?_)
     rintro e w6 ⟨u,rfl,hu,hz,h6⟩
     have HU:=hid hu
     have HZ:=hid hz
     have H6:Hid (Below (N+1) W w6):=hid (HST.o _ _ H5.o h6)
     clear hu hz h6))
 go_ret
 exact ⟨u,rfl,HU.o,HZ.o,HBW.o _ H6.o⟩
theorem word_lit:nb { data:= #[114,101,99,101,105,112,116,115] }=wordR:=rfl
theorem word_size:ByteArray.size { data:= #[114,101,99,101,105,112,116,115] }=8:=rfl
theorem encB_len (root:List Nat) (hr:root.length=32) (n:Nat) (hn:n≤1000):(encB root n).length≤100:=by
 have h1:=num_len40 (n:=n) (by omega)
 have h2:=num_len40 (n:=8) (by omega)
 unfold encB
 simp only [List.length_append,hr,wordR,List.length_cons,List.length_nil]
 omega
theorem batch_ok (root:ByteArray) (hr:root.size=32) (n:Nat) (hn:n≤1000) (T:List Nat) (hT:batchR (nb root) n=T) (w:World) (hLd:Laid w):
    Calls Tryz.prog 92 #[.string root,.int .i64 (n:Int)] w fun e w'=> ∃u:ByteArray,e= .returned (.string u)∧nb u=T∧u.size=32∧Below w.heap.size w w':=by
 have HEL:=hid (encB_len (nb root) (by rw [nb_length];exact hr) n hn)
 have HT:Hid (Sha.sum (encB (nb root) n)=T):=hid hT
 have HE:Hid ([]++(num 8++nb { data:= #[114,101,99,101,105,112,116,115] })++nb root++num n=encB (nb root) n):=hid (by rw [word_lit];unfold encB;simp)
 have HL1:Hid (([]++(num 8++nb { data:= #[114,101,99,101,105,112,116,115] })).length≤100∧([]++(num 8++nb { data:= #[114,101,99,101,105,112,116,115] })++nb root).length≤100):=hid (by
  have h1:=num_len40 (n:=8) (by omega)
  rw [word_lit]
  simp only [List.nil_append,List.length_append,nb_length,hr,wordR,List.length_cons,List.length_nil]
  omega)
 have HLD:=hid hLd
 have HR:=hid hr
 have HNN:=hid hn
 have hwu:IntKind.u64.wrap (n:Int)=(n:Int):=by rw [IntKind.wrap_u64];omega
 obtain ⟨E,hE⟩:=ex_eq (encB (nb root) n)
 rw [hE] at HEL HT HE
 clear hE hT hr hn hLd
 obtain ⟨N,hN⟩:=ex_eq w.heap.size
 have HN:=hid hN
 clear hN
 go_enter Tryz.func92,Tryz.ntmps92
 go_wp2_with (first
  | (go_at_call 103
     (with_reducible refine (newWriter_ok _).mono ?_)
     rintro e w3 ⟨g,rfl,hg3,hle3,h3⟩
     have HW3:Hid (WrAt w3 g (g+1) []):=hid (WrAt.start hg3 (Nat.lt_succ_self g) (gS hg3).1)
     have H3:=hid h3
     have HGN:=hid hle3
     clear hg3 h3 hle3)
  | (go_at_call 186
     (with_reducible refine (wrText_ok g _ _ { data:= #[114,101,99,101,105,112,116,115] } 8 word_size (by decide) (by decide) _ HW3.o).mono ?_)
     rintro e w4 ⟨rfl,hw4,h4⟩
     have HW4:=hid hw4
     have H4:Hid (Below w.heap.size w w4):=hid (H3.o.trans (h4.below H3.o.size (fun k i hk hm=>by have:=HGN.o;rcases hm with hm | hm<;> omega)))
     clear hw4 h4)
  | (go_at_call 107
     (with_reducible refine (wrSum_ok g _ _ root HR.o (by have:=HL1.o.1;omega) _ HW4.o).mono ?_)
     rintro e w5 ⟨rfl,hw5,h5⟩
     have HW5:=hid hw5
     have H5:Hid (Below w.heap.size w w5):=hid (H4.o.trans (h5.below H4.o.size (fun k i hk hm=>by have:=HGN.o;rcases hm with hm | hm<;> omega)))
     clear hw5 h5)
  | (go_at_call 105
     (with_reducible refine (wrUint_ok g _ _ n (by have:=HNN.o;omega) (by have:=HL1.o.2;omega) _ HW5.o).mono ?_)
     rintro e w6 ⟨rfl,hw6,h6⟩
     have HW6:Hid (WrAt w6 g (g+1) E):=hid (hw6.len HE.o)
     have H6:Hid (Below w.heap.size w w6):=hid (H5.o.trans (h6.below H5.o.size (fun k i hk hm=>by have:=HGN.o;rcases hm with hm | hm<;> omega)))
     clear hw6 h6)
  | (go_at_call 108
     (with_reducible refine (wrDone_ok g _ _ (by have:=HEL.o;omega) _ HW6.o).mono ?_)
     rintro e w7 ⟨ad,L,cap,rfl,hL7,hle7,hB7,hn7,hb7,h7⟩
     have HL7:=hid hL7
     have HLE7:Hid (E.length≤cap):=hid (by rw [hL7];exact hle7)
     have HB7:=hid hB7
     have HN7:=hid hn7
     have H7:Hid (Below w.heap.size w w7):=hid (H6.o.trans (h7.mono H6.o.size))
     have HBK:Hid (∀x,ad=some x→0<E.length→x.block<w7.heap.size):=hid (fun x e h0=>hB7.blk x e (fun e2=>by rw [e2] at h0;simp at h0))
     clear hL7 hle7 hB7 hn7 hb7 h7)
  | (go_at_call 157
     (with_reducible refine (sum_l ad cap E L HL7.o HLE7.o HN7.o (by have:=HEL.o;omega) _ HB7.o HBK.o (HLD.o.later H7.o (Nat.le_refl _))).mono ?_)
     rintro e w8 ⟨u,rfl,hu,h8⟩
     have HU:Hid (nb u=T):=hid (by rw [← HT.o];exact hu)
     have HZ:Hid (u.size=32):=hid (by rw [← nb_length,hu];exact Sha.sum_length _)
     have H8:Hid (Below w.heap.size w w8):=hid (H7.o.trans (h8.mono H7.o.size))
     clear hu h8))
 go_ret
 exact ⟨u,rfl,HU.o,HZ.o,H8.o⟩
theorem bitLen_log: ∀k:Fin 256,k.val=0∨Lib.bitLen k.val=Nat.log2 k.val+1:=by decide+kernel
theorem splM_0 (n:Nat) (h1:1<n) (h2:n≤2) (w:World):Calls Tryz.prog 183 #[.int .i64 (n:Int)] w fun e w'=>e= .returned (.int .i64 1)∧w=w':=by
 have hbl:=fun w=>bits_Len ((n:Int) - 1) w (by omega) (by omega)
 have hlen:Lib.bitLen ((n:Int) - 1).toNat=1:=by
  rw [show ((n:Int) - 1).toNat=n - 1 by omega]
  rcases bitLen_log ⟨n - 1,by omega⟩ with h | h
  ·simp only at h;omega
  ·simp only at h
   rw [h,(Nat.log2_eq_iff (n:=n - 1) (k:=0) (by omega)).2 (by omega)]
 rw [hlen] at hbl
 have hwu:IntKind.u64.wrap ((n:Int) - 1)=(n:Int) - 1:=by rw [IntKind.wrap_u64];omega
 clear hlen
 go_enter Tryz.func183,Tryz.ntmps183
 go_wp2_with (first
  | (go_at_call 235
     (refine (hbl _).mono ?_)
     rintro e w2 ⟨rfl,rfl⟩))
 go_ret
 exact ⟨rfl,rfl⟩
theorem splM_1 (n:Nat) (h1:2<n) (h2:n≤4) (w:World):Calls Tryz.prog 183 #[.int .i64 (n:Int)] w fun e w'=>e= .returned (.int .i64 2)∧w=w':=by
 have hbl:=fun w=>bits_Len ((n:Int) - 1) w (by omega) (by omega)
 have hlen:Lib.bitLen ((n:Int) - 1).toNat=2:=by
  rw [show ((n:Int) - 1).toNat=n - 1 by omega]
  rcases bitLen_log ⟨n - 1,by omega⟩ with h | h
  ·simp only at h;omega
  ·simp only at h
   rw [h,(Nat.log2_eq_iff (n:=n - 1) (k:=1) (by omega)).2 (by omega)]
 rw [hlen] at hbl
 have hwu:IntKind.u64.wrap ((n:Int) - 1)=(n:Int) - 1:=by rw [IntKind.wrap_u64];omega
 clear hlen
 go_enter Tryz.func183,Tryz.ntmps183
 go_wp2_with (first
  | (go_at_call 235
     (refine (hbl _).mono ?_)
     rintro e w2 ⟨rfl,rfl⟩))
 go_ret
 exact ⟨rfl,rfl⟩
theorem splM_2 (n:Nat) (h1:4<n) (h2:n≤8) (w:World):Calls Tryz.prog 183 #[.int .i64 (n:Int)] w fun e w'=>e= .returned (.int .i64 4)∧w=w':=by
 have hbl:=fun w=>bits_Len ((n:Int) - 1) w (by omega) (by omega)
 have hlen:Lib.bitLen ((n:Int) - 1).toNat=3:=by
  rw [show ((n:Int) - 1).toNat=n - 1 by omega]
  rcases bitLen_log ⟨n - 1,by omega⟩ with h | h
  ·simp only at h;omega
  ·simp only at h
   rw [h,(Nat.log2_eq_iff (n:=n - 1) (k:=2) (by omega)).2 (by omega)]
 rw [hlen] at hbl
 have hwu:IntKind.u64.wrap ((n:Int) - 1)=(n:Int) - 1:=by rw [IntKind.wrap_u64];omega
 clear hlen
 go_enter Tryz.func183,Tryz.ntmps183
 go_wp2_with (first
  | (go_at_call 235
     (refine (hbl _).mono ?_)
     rintro e w2 ⟨rfl,rfl⟩))
 go_ret
 exact ⟨rfl,rfl⟩
theorem splM_3 (n:Nat) (h1:8<n) (h2:n≤16) (w:World):Calls Tryz.prog 183 #[.int .i64 (n:Int)] w fun e w'=>e= .returned (.int .i64 8)∧w=w':=by
 have hbl:=fun w=>bits_Len ((n:Int) - 1) w (by omega) (by omega)
 have hlen:Lib.bitLen ((n:Int) - 1).toNat=4:=by
  rw [show ((n:Int) - 1).toNat=n - 1 by omega]
  rcases bitLen_log ⟨n - 1,by omega⟩ with h | h
  ·simp only at h;omega
  ·simp only at h
   rw [h,(Nat.log2_eq_iff (n:=n - 1) (k:=3) (by omega)).2 (by omega)]
 rw [hlen] at hbl
 have hwu:IntKind.u64.wrap ((n:Int) - 1)=(n:Int) - 1:=by rw [IntKind.wrap_u64];omega
 clear hlen
 go_enter Tryz.func183,Tryz.ntmps183
 go_wp2_with (first
  | (go_at_call 235
     (refine (hbl _).mono ?_)
     rintro e w2 ⟨rfl,rfl⟩))
 go_ret
 exact ⟨rfl,rfl⟩
theorem splM_4 (n:Nat) (h1:16<n) (h2:n≤32) (w:World):Calls Tryz.prog 183 #[.int .i64 (n:Int)] w fun e w'=>e= .returned (.int .i64 16)∧w=w':=by
 have hbl:=fun w=>bits_Len ((n:Int) - 1) w (by omega) (by omega)
 have hlen:Lib.bitLen ((n:Int) - 1).toNat=5:=by
  rw [show ((n:Int) - 1).toNat=n - 1 by omega]
  rcases bitLen_log ⟨n - 1,by omega⟩ with h | h
  ·simp only at h;omega
  ·simp only at h
   rw [h,(Nat.log2_eq_iff (n:=n - 1) (k:=4) (by omega)).2 (by omega)]
 rw [hlen] at hbl
 have hwu:IntKind.u64.wrap ((n:Int) - 1)=(n:Int) - 1:=by rw [IntKind.wrap_u64];omega
 clear hlen
 go_enter Tryz.func183,Tryz.ntmps183
 go_wp2_with (first
  | (go_at_call 235
     (refine (hbl _).mono ?_)
     rintro e w2 ⟨rfl,rfl⟩))
 go_ret
 exact ⟨rfl,rfl⟩
theorem splM_5 (n:Nat) (h1:32<n) (h2:n≤64) (w:World):Calls Tryz.prog 183 #[.int .i64 (n:Int)] w fun e w'=>e= .returned (.int .i64 32)∧w=w':=by
 have hbl:=fun w=>bits_Len ((n:Int) - 1) w (by omega) (by omega)
 have hlen:Lib.bitLen ((n:Int) - 1).toNat=6:=by
  rw [show ((n:Int) - 1).toNat=n - 1 by omega]
  rcases bitLen_log ⟨n - 1,by omega⟩ with h | h
  ·simp only at h;omega
  ·simp only at h
   rw [h,(Nat.log2_eq_iff (n:=n - 1) (k:=5) (by omega)).2 (by omega)]
 rw [hlen] at hbl
 have hwu:IntKind.u64.wrap ((n:Int) - 1)=(n:Int) - 1:=by rw [IntKind.wrap_u64];omega
 clear hlen
 go_enter Tryz.func183,Tryz.ntmps183
 go_wp2_with (first
  | (go_at_call 235
     (refine (hbl _).mono ?_)
     rintro e w2 ⟨rfl,rfl⟩))
 go_ret
 exact ⟨rfl,rfl⟩
theorem splM_6 (n:Nat) (h1:64<n) (h2:n≤128) (w:World):Calls Tryz.prog 183 #[.int .i64 (n:Int)] w fun e w'=>e= .returned (.int .i64 64)∧w=w':=by
 have hbl:=fun w=>bits_Len ((n:Int) - 1) w (by omega) (by omega)
 have hlen:Lib.bitLen ((n:Int) - 1).toNat=7:=by
  rw [show ((n:Int) - 1).toNat=n - 1 by omega]
  rcases bitLen_log ⟨n - 1,by omega⟩ with h | h
  ·simp only at h;omega
  ·simp only at h
   rw [h,(Nat.log2_eq_iff (n:=n - 1) (k:=6) (by omega)).2 (by omega)]
 rw [hlen] at hbl
 have hwu:IntKind.u64.wrap ((n:Int) - 1)=(n:Int) - 1:=by rw [IntKind.wrap_u64];omega
 clear hlen
 go_enter Tryz.func183,Tryz.ntmps183
 go_wp2_with (first
  | (go_at_call 235
     (refine (hbl _).mono ?_)
     rintro e w2 ⟨rfl,rfl⟩))
 go_ret
 exact ⟨rfl,rfl⟩
theorem splM_7 (n:Nat) (h1:128<n) (h2:n≤256) (w:World):Calls Tryz.prog 183 #[.int .i64 (n:Int)] w fun e w'=>e= .returned (.int .i64 128)∧w=w':=by
 have hbl:=fun w=>bits_Len ((n:Int) - 1) w (by omega) (by omega)
 have hlen:Lib.bitLen ((n:Int) - 1).toNat=8:=by
  rw [show ((n:Int) - 1).toNat=n - 1 by omega]
  rcases bitLen_log ⟨n - 1,by omega⟩ with h | h
  ·simp only at h;omega
  ·simp only at h
   rw [h,(Nat.log2_eq_iff (n:=n - 1) (k:=7) (by omega)).2 (by omega)]
 rw [hlen] at hbl
 have hwu:IntKind.u64.wrap ((n:Int) - 1)=(n:Int) - 1:=by rw [IntKind.wrap_u64];omega
 clear hlen
 go_enter Tryz.func183,Tryz.ntmps183
 go_wp2_with (first
  | (go_at_call 235
     (refine (hbl _).mono ?_)
     rintro e w2 ⟨rfl,rfl⟩))
 go_ret
 exact ⟨rfl,rfl⟩
theorem split_any (n:Nat) (h2:2≤n) (h:n≤256) (w:World):Calls Tryz.prog 183 #[.int .i64 (n:Int)] w fun e w'=>e= .returned (.int .i64 ((Mrk.spl n:Nat):Int))∧w=w':=by
 have hc:n≤2∨(2<n∧n≤4)∨(4<n∧n≤8)∨(8<n∧n≤16)∨(16<n∧n≤32)∨(32<n∧n≤64)∨(64<n∧n≤128)∨(128<n∧n≤256):=by omega
 rcases hc with h1 | h1 | h1 | h1 | h1 | h1 | h1 | h1
 ·rw [Mrk.spl_unique (n:=n) (k:=0) (by omega) (by omega)];exact splM_0 n (by omega) (by omega) w
 ·rw [Mrk.spl_unique (n:=n) (k:=1) (by omega) (by omega)];exact splM_1 n (by omega) (by omega) w
 ·rw [Mrk.spl_unique (n:=n) (k:=2) (by omega) (by omega)];exact splM_2 n (by omega) (by omega) w
 ·rw [Mrk.spl_unique (n:=n) (k:=3) (by omega) (by omega)];exact splM_3 n (by omega) (by omega) w
 ·rw [Mrk.spl_unique (n:=n) (k:=4) (by omega) (by omega)];exact splM_4 n (by omega) (by omega) w
 ·rw [Mrk.spl_unique (n:=n) (k:=5) (by omega) (by omega)];exact splM_5 n (by omega) (by omega) w
 ·rw [Mrk.spl_unique (n:=n) (k:=6) (by omega) (by omega)];exact splM_6 n (by omega) (by omega) w
 ·rw [Mrk.spl_unique (n:=n) (k:=7) (by omega) (by omega)];exact splM_7 n (by omega) (by omega) w
theorem node_g (l r:ByteArray) (hl:l.size≤1000) (hr:r.size≤1000) (w:World) (hL:Laid w):
    Calls Tryz.prog 177 #[.string l,.string r] w fun e w'=> ∃u:ByteArray,e= .returned (.string u)∧nb u=Mrk.node (nb l) (nb r)∧u.size=32∧Below w.heap.size w w':=by
 have HL:=hid hL
 have HT:Hid (Sha.sum (catB [{ data:= #[1] },l,r])=Mrk.node (nb l) (nb r)):=hid (by rw [catB_three,one_lit];rfl)
 have HCL:Hid ((catB [{ data:= #[1] },l,r]).length≤100000000000):=hid (by rw [catB_three,List.length_append,List.length_append,nb_length,nb_length,nb_length];show 1+_≤_;omega)
 obtain ⟨CT,hCT⟩:=ex_eq (catB [{ data:= #[1] },l,r])
 have HCT:=hid hCT
 rw [hCT] at HT HCL
 clear hl hr hL hCT
 go_enter Tryz.func177,Tryz.ntmps177
 have HB1:Hid (Below w.heap.size w (w.alloc (.cells #[.string { data:= #[1] },.string l,.string r] 9))):=hid ((Below.refl _ _).alloc (Nat.le_refl _) _)
 have HS1:Hid (StrsAt (w.alloc (.cells #[.string { data:= #[1] },.string l,.string r] 9)) (some ⟨w.heap.size,0,none⟩) [{ data:= #[1] },l,r]):=hid (strs_of_row (t:=9) (heap_alloc_new w _))
 go_wp2_with (first
  | (go_at_call 244
     (refine (join_l (some ⟨w.heap.size,0,none⟩) 3 [{ data:= #[1] },l,r] 3 rfl (by rw [HCT.o];exact HCL.o) (by show 3≤1000000000;omega) _ HS1.o (HL.o.later HB1.o (Nat.le_refl _)) CT HCT.o).mono ?_)
     rintro e w2 ⟨u,rfl,hu,h2⟩
     have HU:=hid hu
     have H2:=hid h2
     clear hu h2))
 go_ret
 exact ⟨u,rfl,by rw [HU.o,HT.o],by rw [← nb_length,HU.o,HT.o];exact Mrk.node_len _ _,HB1.o.trans (H2.o.mono HB1.o.size)⟩
theorem sliceS_lh (a:Option Addr) (n cap l h:Nat) (hlh:l≤h) (hh:h≤cap) (W:World):(Instr.slice 43 (.slice a n cap) (some (.int .i64 (l:Int))) (some (.int .i64 (h:Int))) none).run Tryz.prog W= .ok (.slice (subA a l cap) (h - l) (cap - l)) W:=by
 rw [run_slice_lh W 43 _ _ _ (by rw [Tryz.elemS];exact Tryz.underlying43) .i64 .i64 _ _ (by omega) (by omega) (by omega),Tryz.elemS,Tryz.sizeOf9']
 simp [Result.andThen,sliced,subA]
theorem map_take_nb (ss:List ByteArray) (k:Nat):(ss.map nb).take k=(ss.take k).map nb:=List.map_take.symm
theorem map_drop_nb (ss:List ByteArray) (k:Nat):(ss.map nb).drop k=(ss.drop k).map nb:=List.map_drop.symm
theorem rootM_ok: ∀(n:Nat),1≤n→n≤256→ ∀(a:Option Addr) (cap:Nat) (ss:List ByteArray),ss.length=n→n≤cap→(∀s ∈ ss,s.size=32)→ ∀(w:World),StrsAt w a ss→Laid w→
    Calls Tryz.prog 90 #[.slice a n cap] w fun e w'=> ∃u:ByteArray,e= .returned (.string u)∧nb u=Mrk.rootM (ss.map nb)∧u.size=32∧Below w.heap.size w w':=by
 intro n
 induction n using Nat.strongRecOn with
 | ind n ih=>
   intro hn1 hn9 a cap ss hLe hcap h32 w hS hLd
   by_cases h2:2≤n
   rotate_left
   ·obtain rfl:n=1:=by omega
    obtain ⟨b,o,rfl,hcs⟩: ∃b o,a=some ⟨b,o,none⟩∧ ∀i,i<ss.length→w.cell? ⟨b,o+i,none⟩=some (.string (ss.getD i ByteArray.empty)):=by
     rcases hS with h | h
     ·rw [h] at hLe;simp at hLe
     ·exact h
    have hc:=hcs 0 (by omega)
    rw [Nat.add_zero] at hc
    have HZ:=hid (h32 _ (getD_mem ss 0 ByteArray.empty (by omega)))
    have HM:Hid (Mrk.rootM (ss.map nb)=nb (ss.getD 0 ByteArray.empty)):=hid (by rw [Mrk.rootM_one (by rw [List.length_map,hLe])];exact getD_map ss 0 (by omega))
    obtain ⟨s,hs⟩:=ex_eq (ss.getD 0 ByteArray.empty)
    rw [hs] at hc HZ HM
    clear hS h32 hcs hs hLe ih hLd h2 hn1 hn9
    go_enter Tryz.func90,Tryz.ntmps90
    go_wp2_with fail
    go_ret
    exact ⟨s,rfl,HM.o.symm,HZ.o,Below.refl _ _⟩
   have HSPL:Hid (∀w,Calls Tryz.prog 183 #[.int .i64 (n:Int)] w fun e w'=>e= .returned (.int .i64 ((Mrk.spl n:Nat):Int))∧w=w'):=hid (fun w=>split_any n h2 hn9 w)
   have hk1:=Mrk.spl_pos n
   have hk2:=Mrk.spl_lt h2
   have HRT:Hid (Mrk.rootM (ss.map nb)=Mrk.node (Mrk.rootM ((ss.take (Mrk.spl n)).map nb)) (Mrk.rootM ((ss.drop (Mrk.spl n)).map nb))):=hid (by
    rw [Mrk.rootM_two (by rw [List.length_map];omega),List.length_map,hLe,map_take_nb,map_drop_nb])
   obtain ⟨K,hK⟩:=ex_eq (Mrk.spl n)
   rw [hK] at HSPL hk1 hk2 HRT
   obtain ⟨J,hJ⟩:=ex_eq (n - K)
   have hl1:(ss.take K).length=K:=by rw [List.length_take];omega
   have hl2:(ss.drop K).length=J:=by rw [List.length_drop];omega
   have HLD:Hid (∀V,Below w.heap.size w V→Laid V):=hid (fun V h=>hLd.later h (Nat.le_refl _))
   have HA1:Hid (∀V,Below w.heap.size w V→StrsAt V (subA a 0 cap) (ss.take K)):=hid (fun V hV=>by
    have h1:=strsAt_sub (hS.later hV) (cap:=cap) (by omega) 0 K
    rwa [List.drop_zero] at h1)
   have HA2:Hid (∀V,Below w.heap.size w V→StrsAt V (subA a K cap) (ss.drop K)):=hid (fun V hV=>by
    have h1:=strsAt_sub (hS.later hV) (cap:=cap) (by omega) K n
    rwa [List.take_of_length_le (by omega)] at h1)
   have HR1:=hid (fun w hS hL=>ih K hk2 hk1 (by omega) (subA a 0 cap) cap (ss.take K) hl1 (by omega) (fun s hs=>h32 s (List.mem_of_mem_take hs)) w hS hL)
   have HR2:=hid (fun w hS hL=>ih J (by omega) (by omega) (by omega) (subA a K cap) (cap - K) (ss.drop K) hl2 (by omega) (fun s hs=>h32 s (List.mem_of_mem_drop hs)) w hS hL)
   have hsh:=fun W=>sliceS_h a n cap K (by omega) W
   have hsl0:=fun W=>sliceS_l a n cap K (by omega) W
   rw [hJ] at hsl0
   have hn0:((n:Int)==0)=false:=by rw [beq_eq_false_iff_ne];omega
   have hn1':((n:Int)==1)=false:=by rw [beq_eq_false_iff_ne];omega
   clear hK hl1 hl2 h32 hS hLe ih hLd hJ hk1 hk2 h2 hn1
   go_enter Tryz.func90,Tryz.ntmps90
   go_upto_region 7 with (first
    | (go_at_call 183
       (refine (HSPL.o _).mono ?_)
       rintro e w2 ⟨rfl,rfl⟩))
   refine Kit.wp_region_gplan (fun V=>True) [(true,0),(true,1),(true,2),(true,4),(true,5),(true,6),(false,3),(false,7),(false,8),(true,9)] (by kernel_rfl) (by kernel_rfl) (by kernel_rfl) (by kernel_rfl) trivial ?_
   iterate 6 (refine Kit.ghd (h:= ?_))
   refine Kit.gplan_op (by rfl) (by rfl) fun K' hK=> ?_
   go_simp
   go_at_call 90
   refine (HR1.o _ (HA1.o _ (Below.refl _ _).drew) (HLD.o _ (Below.refl _ _).drew)).mono ?_
   rintro e w3 ⟨u3,rfl,hu3,hz3,h3⟩
   have HU3:=hid hu3
   have HZ3:=hid hz3
   have H3:Hid (Below w.heap.size w w3):=hid ((Below.refl _ w).drew.trans h3)
   clear hu3 hz3 h3
   refine hK _ _ trivial ?_
   clear hK K'
   refine Kit.gplan_op (by rfl) (by rfl) fun K' hK=> ?_
   go_simp
   go_at_call 90
   refine (HR2.o _ (HA2.o _ H3.o) (HLD.o _ H3.o)).mono ?_
   rintro e w4 ⟨u4,rfl,hu4,hz4,h4⟩
   have HU4:=hid hu4
   have HZ4:=hid hz4
   have H4:=hid (H3.o.trans (h4.mono H3.o.size))
   clear hu4 hz4 h4
   refine hK _ _ trivial ?_
   clear hK K'
   refine Kit.gplan_op (by rfl) (by rfl) fun K' hK=> ?_
   go_simp
   go_at_call 177
   refine (node_l u3 u4 HZ3.o HZ4.o (Mrk.rootM (ss.map nb)) (by rw [HU3.o,HU4.o,HRT.o]) _ (HLD.o _ H4.o)).mono ?_
   rintro e w5 ⟨u5,rfl,hu5,hz5,h5⟩
   have HU5:=hid hu5
   have HZ5:=hid hz5
   have H5:=hid (H4.o.trans (h5.mono H4.o.size))
   clear hu5 hz5 h5
   refine hK _ _ trivial ?_
   clear hK K'
   iterate 1 (refine Kit.ghd (h:= ?_))
   refine Kit.gdn (h:=?_)
   go_wp2_with fail
   go_ret
   exact ⟨u5,rfl,HU5.o,HZ5.o,H5.o⟩
theorem partC_ok (q:Nat) (a:Option Addr) (n cap:Nat) (ss:List ByteArray) (hLe:ss.length=n) (hcap:n≤cap) (hn9:n≤256) (h32: ∀s ∈ ss,s.size=32) (S K:Nat) (hK:1≤K) (hSK:S+K≤n) (w:World) (hc:w.cell? ⟨q,0,none⟩=some (.slice a n cap)) (hS:StrsAt w a ss) (hLd:Laid w):
    Calls Tryz.prog 187 #[.int .i64 (S:Int),.int .i64 (K:Int),.pointer (some ⟨q,0,none⟩)] w fun e w'=> ∃u:ByteArray,e= .returned (.string u)∧nb u=Mrk.rootM (((ss.map nb).drop S).take K)∧u.size=32∧Below w.heap.size w w':=by
 have hs:=fun W=>sliceS_lh a n cap S (S+K) (by omega) (by omega) W
 rw [show S+K - S=K by omega] at hs
 have hsk:(S:Int)+(K:Int)=((S+K:Nat):Int):=by omega
 have HR:=hid (rootM_ok K hK (by omega) (subA a S cap) (cap - S) ((ss.take (S+K)).drop S) (by rw [List.length_drop,List.length_take];omega) (by omega) (fun s hs=>h32 s (List.mem_of_mem_take (List.mem_of_mem_drop hs))) w (strsAt_sub hS (by omega) S (S+K)) hLd)
 have HE:Hid (((ss.take (S+K)).drop S).map nb=((ss.map nb).drop S).take K):=hid (by rw [List.drop_take,show S+K - S=K by omega,map_drop_nb,map_take_nb])
 rw [HE.o] at HR
 have hs1:S+K≤256:=by omega
 obtain ⟨J,hJ⟩:=ex_eq (S+K)
 rw [hJ] at hs hsk hs1
 clear HE hLe h32 hS hLd hSK hJ hK
 go_enter Tryz.func187,Tryz.ntmps187
 go_wp2_with (first
  | (go_at_call 90
     (with_reducible refine HR.o.mono ?_)
     rintro e w2 ⟨u,rfl,hu,hz,h2⟩
     have HU:=hid hu
     have HZ:=hid hz
     have H2:=hid h2
     clear hu hz h2))
 go_ret
 exact ⟨u,rfl,HU.o,HZ.o,H2.o⟩
theorem pathM_ok (q:Nat) (a:Option Addr) (n cap:Nat) (ss:List ByteArray) (hLe:ss.length=n) (hcap:n≤cap) (hn9:n≤256) (h32: ∀s ∈ ss,s.size=32):
    ∀(P:Nat),1≤P→P≤256→ ∀(S i:Nat),S+P≤n→i<P→ ∀(w:World),(w.cell? ⟨q,0,none⟩=some (.slice a n cap)∧StrsAt w a ss∧Laid w)→
    Calls Tryz.prog 188 #[.func (.func 187) #[] #[.pointer (some ⟨q,0,none⟩)],.int .i64 (S:Int),.int .i64 (i:Int),.int .i64 (P:Int)] w fun e w'=> ∃(v:Value) (m:Nat) (vs:List ByteArray),e= .returned v∧m=vs.length∧m≤8∧vs.map nb=Mrk.pathM i (((ss.map nb).drop S).take P)∧w'.ownsRow w.heap.size 9 1 v m (strV vs)∧(∀s ∈ vs,s.size=32)∧Below w.heap.size w w':=by
 obtain ⟨CtxQ,hCtx⟩: ∃C:World→Prop,C=fun w=>w.cell? ⟨q,0,none⟩=some (.slice a n cap)∧StrsAt w a ss∧Laid w:=⟨_,rfl⟩
 have HPC:Hid (∀S K,1≤K→S+K≤n→ ∀V,CtxQ V→Calls Tryz.prog 187 #[.int .i64 (S:Int),.int .i64 (K:Int),.pointer (some ⟨q,0,none⟩)] V fun e w'=> ∃u:ByteArray,e= .returned (.string u)∧nb u=Mrk.rootM (((ss.map nb).drop S).take K)∧u.size=32∧Below V.heap.size V w'):=hid (fun S K h1 h2 V hC=>by
  rw [hCtx] at hC
  exact partC_ok q a n cap ss hLe hcap hn9 h32 S K h1 h2 V hC.1 hC.2.1 hC.2.2)
 have HLT:Hid (∀(V V':World),CtxQ V→Below V.heap.size V V'→CtxQ V'):=hid (fun V V' hC hb=>by
  rw [hCtx] at hC ⊢
  exact ⟨(hb.cell (World.block_lt_of_cell? _ _ hC.1)).trans hC.1,hC.2.1.later hb,hC.2.2.later hb (Nat.le_refl _)⟩)
 have hgo: ∀w,(w.cell? ⟨q,0,none⟩=some (.slice a n cap)∧StrsAt w a ss∧Laid w)→CtxQ w:=fun w h=>by rw [hCtx];exact h
 have hLL:(ss.map nb).length=n:=by rw [List.length_map,hLe]
 obtain ⟨L,hL⟩:=ex_eq (ss.map nb)
 rw [hL] at HPC hLL ⊢
 have HLT2:=HLT
 clear hCtx hLe hcap h32 hL
 suffices hmain: ∀(P:Nat),1≤P→P≤256→ ∀(S i:Nat),S+P≤n→i<P→ ∀(w:World),CtxQ w→
  Calls Tryz.prog 188 #[.func (.func 187) #[] #[.pointer (some ⟨q,0,none⟩)],.int .i64 (S:Int),.int .i64 (i:Int),.int .i64 (P:Int)] w fun e w'=> ∃(v:Value) (m:Nat) (vs:List ByteArray),e= .returned v∧m=vs.length∧m≤8∧vs.map nb=Mrk.pathM i ((L.drop S).take P)∧w'.ownsRow w.heap.size 9 1 v m (strV vs)∧(∀s ∈ vs,s.size=32)∧Below w.heap.size w w' from
  fun P h1 h2 S i h3 h4 w h5=>hmain P h1 h2 S i h3 h4 w (hgo w h5)
 clear hgo
 intro P
 induction P using Nat.strongRecOn with
 | ind P ih=>
   intro hP1 hP9 S i hSP hi w hC
   by_cases h2:2≤P
   rotate_left
   ·obtain rfl:P=1:=by omega
    have HPE:Hid (Mrk.pathM i ((L.drop S).take 1)=[]):=hid (Mrk.pathM_one (by rw [List.length_take];omega))
    clear ih hC h2 HPC HLT HLT2 hLL hn9 hSP
    go_enter Tryz.func188,Tryz.ntmps188
    go_wp2_with fail
    go_ret
    exact ⟨_,0,[],rfl,rfl,Nat.zero_le _,HPE.o.symm,⟨rfl,.inl ⟨rfl,rfl⟩⟩,(fun s hs=>by cases hs),Below.refl _ _⟩
   have HSPL:Hid (∀w,Calls Tryz.prog 183 #[.int .i64 (P:Int)] w fun e w'=>e= .returned (.int .i64 ((Mrk.spl P:Nat):Int))∧w=w'):=hid (fun w=>split_any P h2 hP9 w)
   have hk1:=Mrk.spl_pos P
   have hk2:=Mrk.spl_lt h2
   obtain ⟨K,hK⟩:=ex_eq (Mrk.spl P)
   have HK0:=hid hK
   rw [hK] at HSPL hk1 hk2
   clear hK
   have HPL:Hid (((L.drop S).take P).length=P):=hid (by rw [List.length_take,List.length_drop];omega)
   have HP9:Hid (P≤256):=hid hP9
   have HCQ:=hid hC
   have HLT:Hid (∀V',Below w.heap.size w V'→CtxQ V'):=hid (fun V' h=>HLT2.o _ V' hC h)
   have hPn:((P:Int)==1)=false:=by rw [beq_eq_false_iff_ne];omega
   obtain ⟨J,hJ⟩:=ex_eq (P - K)
   obtain ⟨S1,hS1⟩:=ex_eq (S+K)
   have hT1:((L.drop S).take P).take K=(L.drop S).take K:=by rw [List.take_take,Nat.min_eq_left (by omega)]
   have hT2:((L.drop S).take P).drop K=(L.drop S1).take J:=by rw [List.drop_take,List.drop_drop,hS1,hJ]
   have hpk:(P:Int) - (K:Int)=(J:Int):=by omega
   have hsk:(S:Int)+(K:Int)=(S1:Int):=by omega
   have hs19:S1≤1000:=by omega
   have hk9:K≤1000:=by omega
   have hj9:J≤1000:=by omega
   have hS9:S≤1000:=by omega
   clear hC HLT2
   by_cases hik:i<K
   ·have hiki:(i:Int)<(K:Int):=by omega
    have HIH:=hid (fun w hC=>ih K hk2 hk1 (by omega) S i (by omega) hik w hC)
    have HPR:Hid (∀V,CtxQ V→Calls Tryz.prog 187 #[.int .i64 (S1:Int),.int .i64 (J:Int),.pointer (some ⟨q,0,none⟩)] V fun e w'=> ∃u:ByteArray,e= .returned (.string u)∧nb u=Mrk.rootM ((L.drop S1).take J)∧u.size=32∧Below V.heap.size V w'):=hid (fun V hC=>HPC.o S1 J (by omega) (by omega) V hC)
    have HPA:Hid (Mrk.pathM i ((L.drop S).take P)=Mrk.pathM i ((L.drop S).take K)++[Mrk.rootM ((L.drop S1).take J)]):=hid (by
     rw [Mrk.pathM_left (by rw [HPL.o];omega) (by rw [HPL.o,HK0.o];exact hik),HPL.o,HK0.o,hT1,hT2])
    clear hT1 hT2 hS1 HPL HK0 hk1 hk2 ih HPC
    go_enter Tryz.func188,Tryz.ntmps188
    go_wp2_with (first
     | (go_at_call 183
        (refine (HSPL.o _).mono ?_)
        rintro e w2 ⟨rfl,rfl⟩)
     | (go_at_call 188
        (refine (HIH.o _ HCQ.o).mono ?_)
        rintro e w3 ⟨v3,n3,vs3,rfl,hn3,hn9,hv3,ho3,hz3,h3⟩
        have HN3:=hid hn3
        have HV3:=hid hv3
        have HO3:=hid ho3
        have HZ3:=hid hz3
        have H3:=hid h3
        have HC3:=hid (HLT.o _ h3)
        clear hv3 ho3 hz3 h3 hn3)
     | (go_at_call 187
        (refine (HPR.o _ HC3.o).mono ?_)
        rintro e w5 ⟨s5,rfl,hs5,hz5,h5⟩
        have HS5:=hid hs5
        have HZ5:=hid hz5
        have HO5:=hid (own_later HO3.o h5)
        have H5:=hid (H3.o.trans (h5.mono H3.o.size))
        clear hs5 hz5 h5)
     | (at_builtin
        refine app_str rfl _ _ rfl _ _ _ vs3 (by rfl) HO5.o H5.o.size (by omega) s5 1 (by rfl) ?_
        intro v6 w6 ho6 hb6
        have HO6:=hid ho6
        have H6:=hid (H5.o.trans hb6)
        clear ho6 hb6))
    go_ret
    have hfin:(vs3++[s5]).map nb=Mrk.pathM i ((L.drop S).take P):=by
     rw [HPA.o,List.map_append,HV3.o]
     show _++[nb s5]=_
     rw [HS5.o]
    have hle:(vs3++[s5]).length=n3+1:=by rw [List.length_append,HN3.o];rfl
    refine ⟨_,n3+1,vs3++[s5],rfl,hle.symm,?_,hfin,HO6.o,fun s hs=> ?_,H6.o⟩
    ·have h1:=congrArg List.length hfin
     rw [List.length_map,hle] at h1
     have h2:=Mrk.pathM_len 8 ((L.drop S).take P) i (by rw [List.length_take];have:=HP9.o;omega)
     omega
    ·rcases List.mem_append.1 hs with h1 | h1
     ·exact HZ3.o s h1
     ·rw [List.mem_singleton.1 h1];exact HZ5.o
   ·have hiki: ¬(i:Int)<(K:Int):=by omega
    obtain ⟨I2,hI2⟩:=ex_eq (i - K)
    have hIi:(i:Int) - (K:Int)=(I2:Int):=by omega
    have hI9:I2≤1000:=by omega
    have HIH:=hid (fun w hC=>ih J (by omega) (by omega) (by omega) S1 I2 (by omega) (by omega) w hC)
    have HPR:Hid (∀V,CtxQ V→Calls Tryz.prog 187 #[.int .i64 (S:Int),.int .i64 (K:Int),.pointer (some ⟨q,0,none⟩)] V fun e w'=> ∃u:ByteArray,e= .returned (.string u)∧nb u=Mrk.rootM ((L.drop S).take K)∧u.size=32∧Below V.heap.size V w'):=hid (fun V hC=>HPC.o S K (by omega) (by omega) V hC)
    have HPA:Hid (Mrk.pathM i ((L.drop S).take P)=Mrk.pathM I2 ((L.drop S1).take J)++[Mrk.rootM ((L.drop S).take K)]):=hid (by
     rw [Mrk.pathM_right (by rw [HPL.o];omega) (by rw [HPL.o,HK0.o];exact hik),HPL.o,HK0.o,hT1,hT2,hI2])
    clear hT1 hT2 hS1 HPL HK0 hk1 hk2 ih HPC hI2
    go_enter Tryz.func188,Tryz.ntmps188
    go_wp2_with (first
     | (go_at_call 183
        (refine (HSPL.o _).mono ?_)
        rintro e w2 ⟨rfl,rfl⟩)
     | (go_at_call 188
        (refine (HIH.o _ HCQ.o).mono ?_)
        rintro e w3 ⟨v3,n3,vs3,rfl,hn3,hn9,hv3,ho3,hz3,h3⟩
        have HN3:=hid hn3
        have HV3:=hid hv3
        have HO3:=hid ho3
        have HZ3:=hid hz3
        have H3:=hid h3
        have HC3:=hid (HLT.o _ h3)
        clear hv3 ho3 hz3 h3 hn3)
     | (go_at_call 187
        (refine (HPR.o _ HC3.o).mono ?_)
        rintro e w5 ⟨s5,rfl,hs5,hz5,h5⟩
        have HS5:=hid hs5
        have HZ5:=hid hz5
        have HO5:=hid (own_later HO3.o h5)
        have H5:=hid (H3.o.trans (h5.mono H3.o.size))
        clear hs5 hz5 h5)
     | (at_builtin
        refine app_str rfl _ _ rfl _ _ _ vs3 (by rfl) HO5.o H5.o.size (by omega) s5 1 (by rfl) ?_
        intro v6 w6 ho6 hb6
        have HO6:=hid ho6
        have H6:=hid (H5.o.trans hb6)
        clear ho6 hb6))
    go_ret
    have hfin:(vs3++[s5]).map nb=Mrk.pathM i ((L.drop S).take P):=by
     rw [HPA.o,List.map_append,HV3.o]
     show _++[nb s5]=_
     rw [HS5.o]
    have hle:(vs3++[s5]).length=n3+1:=by rw [List.length_append,HN3.o];rfl
    refine ⟨_,n3+1,vs3++[s5],rfl,hle.symm,?_,hfin,HO6.o,fun s hs=> ?_,H6.o⟩
    ·have h1:=congrArg List.length hfin
     rw [List.length_map,hle] at h1
     have h2:=Mrk.pathM_len 8 ((L.drop S).take P) i (by rw [List.length_take];have:=HP9.o;omega)
     omega
    ·rcases List.mem_append.1 hs with h1 | h1
     ·exact HZ3.o s h1
     ·rw [List.mem_singleton.1 h1];exact HZ5.o
theorem mPath_ok (a:Option Addr) (n cap:Nat) (ss:List ByteArray) (hLe:ss.length=n) (hcap:n≤cap) (hn9:n≤256) (h32: ∀s ∈ ss,s.size=32) (i:Nat) (hi:i<n) (w:World) (hS:StrsAt w a ss) (hLd:Laid w):
    Calls Tryz.prog 93 #[.slice a n cap,.int .i64 (i:Int)] w fun e w'=> ∃(v:Value) (m:Nat) (vs:List ByteArray),e= .returned (.tuple #[v,.int .i64 0])∧m=vs.length∧m≤8∧vs.map nb=Mrk.pathM i (ss.map nb)∧w'.ownsRow (w.heap.size+1) 9 1 v m (strV vs)∧(∀s ∈ vs,s.size=32)∧Below w.heap.size w w':=by
 have HS:=hid hS
 have HLD:=hid hLd
 have HPT:=hid (fun q w h=>pathM_ok q a n cap ss hLe hcap hn9 h32 n (by omega) hn9 0 i (by omega) hi w h)
 have HTE:Hid (((ss.map nb).drop 0).take n=ss.map nb):=hid (by rw [List.drop_zero,List.take_of_length_le (by rw [List.length_map];omega)])
 have hii:(i:Int)<(n:Int):=by omega
 clear hS hLd hLe h32 hi
 go_enter Tryz.func93,Tryz.ntmps93
 go_upto_region 1 with fail
 refine wp_over (fun W=>Hid (W.heap[w.heap.size]? =some (.cells #[.slice a n cap] 43 (0,0)))∧Hid (Below w.heap.size w W)∧Hid (W.heap.size=w.heap.size+1)) ⟨heap_alloc_new _ _,(Below.refl _ _).alloc (Nat.le_refl _) _,by show _=_;simp⟩ ?_
 rintro W ⟨HG,HB,HWS⟩
 have HBW0:Hid (∀V,Below (w.heap.size+1) W V→Below w.heap.size w V):=hid (fun V h=>HB.o.trans (h.mono (Nat.le_succ _)))
 obtain ⟨N,hN⟩:=ex_eq w.heap.size
 have HN:=hid hN
 have HBW:Hid (∀V,Below (N+1) W V→Below w.heap.size w V):=hid (fun V h=>HBW0.o V (by rw [hN];exact h))
 rw [hN] at HG HB HWS ⊢
 clear hN HBW0
 have q0:W.cell? ⟨N,0,none⟩=some (.slice a n cap):=cr HG.o
 have HC0:Hid (W.cell? ⟨N,0,none⟩=some (.slice a n cap)∧StrsAt W a ss∧Laid W):=hid ⟨q0,HS.o.later (by rw [HN.o];exact HB.o),HLD.o.later (by rw [HN.o];exact HB.o) (Nat.le_refl _)⟩
 go_wp2_with (first
  | (go_at_call 188
     (refine (HPT.o N _ HC0.o).mono ?_)
     rintro e w3 ⟨v3,n3,vs3,rfl,hn3,hn9,hv3,ho3,hz3,h3⟩
     have HN3:=hid hn3
     have HN9:=hid hn9
     have HV3:=hid hv3
     have HO3:=hid ho3
     have HZ3:=hid hz3
     have H3:=hid h3
     clear hv3 ho3 hz3 h3 hn3))
 go_ret2
 exact ⟨v3,n3,vs3,rfl,HN3.o,HN9.o,by rw [HV3.o,HTE.o],by have h:=HO3.o;rw [HWS.o] at h;rw [HN.o];exact h,HZ3.o,HBW.o _ (H3.o.mono (by rw [HWS.o];exact Nat.le_refl _))⟩
theorem areSumsM_any (a:Option Addr) (cap L:Nat) (ss:List ByteArray) (hLe:ss.length=L) (hl9:L<9223372036854775808) (w:World) (hS:StrsAt w a ss):
    Calls Tryz.prog 121 #[.slice a L cap] w fun e w'=>e= .returned (.bool (all32 ss))∧Below w.heap.size w w':=by
 have HLE:=hid hLe
 have HS:=hid hS
 clear hLe hS
 go_enter Tryz.func121,Tryz.ntmps121
 go_upto_region 2 with fail
 go_loopw [7] (fun y wr=> ∃k:Nat,k≤L∧y= .int .i64 (k:Int)∧Hid (∀i,i<k→(ss.getD i ByteArray.empty).size=32)∧Hid (Below w.heap.size w wr)) (fun y _=>L - (intOf y).toNat)
 case atStart=>exact ⟨0,by omega,rfl,hid (fun i h=>by omega),hid (Below.refl _ _)⟩
 case round=>
  obtain ⟨k,hk,rfl,H32,HBE⟩:=hrel
  by_cases hlt:k<L
  ·have hki:(k:Int)<(L:Int):=by omega
   obtain ⟨b1,o1,rfl,hcs⟩: ∃b o,a=some ⟨b,o,none⟩∧ ∀i,i<ss.length→wr.cell? ⟨b,o+i,none⟩=some (.string (ss.getD i ByteArray.empty)):=by
    rcases HS.o.later HBE.o with h | h
    ·have:=HLE.o;rw [h] at this;simp at this;omega
    ·exact h
   have hc:=hcs k (by rw [HLE.o];exact hlt)
   have HSM:Hid (ss.getD k ByteArray.empty ∈ ss):=hid (getD_mem ss k _ (by rw [HLE.o];exact hlt))
   obtain ⟨s,hse⟩:=ex_eq (ss.getD k ByteArray.empty)
   rw [hse] at hc HSM
   have HSE:=hid hse
   clear hcs hse
   have HI3:=hid (fun w=>isSumM_any s w)
   by_cases h32:s.size=32
   ·have HH:=hid h32
    rw [decide_eq_true h32] at HI3
    clear h32
    go_wp2_with (first
     | (go_at_call 120
        (with_reducible refine (HI3.o _).mono ?_)
        rintro e w2 ⟨rfl,rfl⟩
        clear hc))
    go_roundw
    case rel=>
     refine ⟨k+1,hlt,by go_num,hid (fun i hi=> ?_),HBE⟩
     by_cases e:i=k
     ·rw [e,HSE.o];exact HH.o
     ·exact H32.o i (by omega)
    case measure=>simp [intOf];omega
   ·have HF:Hid (all32 ss=false):=hid (all32_bad HSM.o h32)
    rw [decide_eq_false h32] at HI3
    clear h32
    go_wp2_with (first
     | (go_at_call 120
        (with_reducible refine (HI3.o _).mono ?_)
        rintro e w2 ⟨rfl,rfl⟩
        clear hc))
    go_ret
    exact ⟨by rw [HF.o];first | rfl | simp,HBE.o⟩
  ·have hki: ¬(k:Int)<(L:Int):=by omega
   have HF:Hid (all32 ss=true):=hid (all32_good H32.o (by have:=HLE.o;omega))
   go_wp2_with fail
   go_ret
   exact ⟨by rw [HF.o];first | rfl | simp,HBE.o⟩
def ClimbOut (l:ByteArray) (i n:Nat) (ss:List ByteArray) (u:ByteArray) (ok:Bool):Prop:=ok=(Mrk.climbM (nb l) i n (ss.map nb)).isSome∧(∀y,Mrk.climbM (nb l) i n (ss.map nb)=some y→nb u=y)∧u.size≤1000
theorem ClimbOut.one {l:ByteArray} {i:Nat} {ss:List ByteArray} (hl:l.size=32):ClimbOut l i 1 ss l (decide (ss.length=0)):=by
 unfold ClimbOut
 rw [Mrk.climbM_one (Nat.le_refl _)]
 by_cases h:ss.length=0
 ·have h2:ss=[]:=List.eq_nil_of_length_eq_zero h
  subst h2
  exact ⟨rfl,fun y hy=>by simpa using hy,by omega⟩
 ·have h2: ¬ss.map nb=[]:=fun e=>h (by have:=congrArg List.length e;rwa [List.length_map] at this)
  rw [if_neg h2,decide_eq_false h]
  exact ⟨rfl,fun y hy=>(by cases hy),by omega⟩
theorem ClimbOut.nil {l:ByteArray} {i n:Nat} {ss:List ByteArray} (h2:2≤n) (h:ss.length=0):ClimbOut l i n ss ByteArray.empty false:=by
 obtain rfl:ss=[]:=List.eq_nil_of_length_eq_zero h
 unfold ClimbOut
 rw [List.map_nil,Mrk.climbM_nil h2]
 exact ⟨rfl,fun y hy=>(by cases hy),by decide⟩
theorem ClimbOut.left {l:ByteArray} {i n K:Nat} {ss ps:List ByteArray} {s u u':ByteArray} {ok:Bool} (hss:ss=ps++[s]) (h2:2≤n) (hK:Mrk.spl n=K) (hi:i<K) (h:ClimbOut l i K ps u ok) (hu:nb u'=Mrk.node (nb u) (nb s)) (hz:u'.size=32):ClimbOut l i n ss u' ok:=by
 subst hss
 obtain ⟨h3,h4,_⟩:=h
 unfold ClimbOut
 rw [List.map_append,List.map_cons,List.map_nil,Mrk.climbM_left h2 (by rw [hK];exact hi),hK]
 refine ⟨by rw [h3,Option.isSome_map],fun y hy=> ?_,by omega⟩
 obtain ⟨z,hz1,rfl⟩:=Option.map_eq_some_iff.1 hy
 rw [hu,h4 z hz1]
theorem ClimbOut.right {l:ByteArray} {i n K J I:Nat} {ss ps:List ByteArray} {s u u':ByteArray} {ok:Bool} (hss:ss=ps++[s]) (h2:2≤n) (hK:Mrk.spl n=K) (hi: ¬i<K) (hI:i - K=I) (hJ:n - K=J) (h:ClimbOut l I J ps u ok) (hu:nb u'=Mrk.node (nb s) (nb u)) (hz:u'.size=32):ClimbOut l i n ss u' ok:=by
 subst hss
 obtain ⟨h3,h4,_⟩:=h
 unfold ClimbOut
 rw [List.map_append,List.map_cons,List.map_nil,Mrk.climbM_right h2 (by rw [hK];exact hi),hK,hI,hJ]
 refine ⟨by rw [h3,Option.isSome_map],fun y hy=> ?_,by omega⟩
 obtain ⟨z,hz1,rfl⟩:=Option.map_eq_some_iff.1 hy
 rw [hu,h4 z hz1]
theorem climbM_any (l:ByteArray) (hl:l.size=32): ∀(n:Nat),1≤n→n≤256→ ∀(i:Nat),i<n→ ∀(a:Option Addr) (cap L:Nat) (ss:List ByteArray),ss.length=L→L≤cap∧L≤1000000→(∀s ∈ ss,s.size=32)→ ∀(w:World),StrsAt w a ss→Laid w→
    Calls Tryz.prog 122 #[.string l,.int .i64 (i:Int),.int .i64 (n:Int),.slice a L cap] w fun e w'=> ∃(u:ByteArray) (ok:Bool),e= .returned (.tuple #[.string u,.bool ok])∧Hid (ClimbOut l i n ss u ok)∧Below w.heap.size w w':=by
 intro n
 induction n using Nat.strongRecOn with
 | ind n ih=>
   intro hn1 hn9 i hi a cap L ss hLe hcap h32 w hS hLd
   by_cases h2:2≤n
   rotate_left
   ·obtain rfl:n=1:=by omega
    by_cases hL0:L=0
    ·subst hL0
     have HO:Hid (ClimbOut l i 1 ss l true):=hid (by have h:=ClimbOut.one (i:=i) (ss:=ss) hl;rwa [decide_eq_true hLe] at h)
     clear ih h32 hS hLd hLe hcap h2 hi
     go_enter Tryz.func122,Tryz.ntmps122
     go_wp2_with fail
     go_ret2
     exact ⟨l,true,rfl,HO,Below.refl _ _⟩
    ·have HO:Hid (ClimbOut l i 1 ss l false):=hid (by have h:=ClimbOut.one (i:=i) (ss:=ss) hl;rwa [decide_eq_false (by rw [hLe];exact hL0)] at h)
     have hLi:((L:Int)==0)=false:=by rw [beq_eq_false_iff_ne];omega
     clear ih h32 hS hLd hLe hcap h2 hi hL0
     go_enter Tryz.func122,Tryz.ntmps122
     go_wp2_with fail
     go_ret2
     exact ⟨l,false,rfl,HO,Below.refl _ _⟩
   have hn1':((n:Int)==1)=false:=by rw [beq_eq_false_iff_ne];omega
   by_cases hL0:L=0
   ·subst hL0
    have HO:Hid (ClimbOut l i n ss ByteArray.empty false):=hid (ClimbOut.nil h2 hLe)
    clear ih h32 hS hLd hLe hcap h2 hi
    go_enter Tryz.func122,Tryz.ntmps122
    go_wp2_with fail
    go_ret2
    exact ⟨ByteArray.empty,false,rfl,HO,Below.refl _ _⟩
   have hLi:((L:Int)==0)=false:=by rw [beq_eq_false_iff_ne];omega
   obtain ⟨L1,hL1⟩: ∃L1,L=L1+1:=⟨L - 1,by omega⟩
   have hL1i:(L:Int) - 1=(L1:Int):=by omega
   have hL1w:IntKind.i64.wrap ((L:Int) - 1)=(L1:Int):=by rw [hL1i,IntKind.wrap_i64];omega
   have hL1L:(L1:Int)<(L:Int):=by omega
   have hL10:(0:Int)≤(L1:Int):=by omega
   have HSS:Hid (ss=ss.take L1++[ss.getD L1 ByteArray.empty]):=hid (by
    have h:=List.take_append_getElem (show L1<ss.length by omega)
    rw [lD,lE (show L1<ss.length by omega)]
    show ss=ss.take L1++[ss[L1]]
    rw [h,List.take_of_length_le (by omega)])
   obtain ⟨bA,oA,rfl,hcs⟩: ∃b o,a=some ⟨b,o,none⟩∧ ∀i,i<ss.length→w.cell? ⟨b,o+i,none⟩=some (.string (ss.getD i ByteArray.empty)):=by
    rcases hS with h | h
    ·rw [h] at hLe;simp at hLe;omega
    ·exact h
   have hc:=hcs L1 (by omega)
   have HS32:=hid (h32 _ (getD_mem ss L1 ByteArray.empty (by omega)))
   obtain ⟨s,hs⟩:=ex_eq (ss.getD L1 ByteArray.empty)
   rw [hs] at hc HS32 HSS
   have HCE:Hid (∀V,Below w.heap.size w V→V.cell? ⟨bA,oA+L1,none⟩=some (.string s)):=hid (fun V h=>(h.cell (World.block_lt_of_cell? _ _ hc)).trans hc)
   clear hcs hs hc
   have HA1:Hid (∀V,Below w.heap.size w V→StrsAt V (some ⟨bA,oA,none⟩) (ss.take L1)):=hid (fun V hV=>by
    have h1:=strsAt_sub (hS.later hV) (cap:=cap) (by omega) 0 L1
    rw [List.drop_zero,subA_some (by omega)] at h1
    exact h1)
   have hL1x:IntKind.i64.wrap (L1:Int)=(L1:Int):=by rw [← hL1i];exact hL1w.trans hL1i.symm
   have hLc:(L1:Int)≤(cap:Int):=by omega
   have HLD:Hid (∀V,Below w.heap.size w V→Laid V):=hid (fun V h=>hLd.later h (Nat.le_refl _))
   have hl1:(ss.take L1).length=L1:=by rw [List.length_take];omega
   have HSPL:Hid (∀w,Calls Tryz.prog 183 #[.int .i64 (n:Int)] w fun e w'=>e= .returned (.int .i64 ((Mrk.spl n:Nat):Int))∧w=w'):=hid (fun w=>split_any n h2 hn9 w)
   have hk1:=Mrk.spl_pos n
   have hk2:=Mrk.spl_lt h2
   have HN2:=hid h2
   obtain ⟨K,hK⟩:=ex_eq (Mrk.spl n)
   have HK0:=hid hK
   rw [hK] at HSPL hk1 hk2
   have hl9:L≤1000000:=hcap.2
   have hcp:L≤cap:=hcap.1
   clear hK hLe hS hLd hL1 hcap hL0 h2
   by_cases hik:i<K
   ·have hiki:(i:Int)<(K:Int):=by omega
    have HIH:=hid (fun w hS hL=>ih K hk2 hk1 (by omega) i hik (some ⟨bA,oA,none⟩) cap L1 (ss.take L1) hl1 ⟨by omega,by omega⟩ (fun s hs=>h32 s (List.mem_of_mem_take hs)) w hS hL)
    have HIK:=hid hik
    clear ih hl1 h32 hk1 hk2 hi hik hn1
    go_enter Tryz.func122,Tryz.ntmps122
    go_upto_region 5 with fail
    have HDR:Hid (Below w.heap.size w w.drew):=hid (Below.refl _ _).drew
    obtain ⟨VD,hVD⟩:=ex_eq w.drew
    rw [hVD] at HDR
    refine Kit.wp_region_gplan (fun V=>V.cell? ⟨bA,oA+L1,none⟩=some (.string s)) [(true,0),(true,1),(true,2),(true,3),(true,4),(true,5),(true,6),(true,7),(true,8),(true,9),(true,10),(true,11),(true,12)] (by kernel_rfl) (by kernel_rfl) (by kernel_rfl) (by kernel_rfl) (by rw [hVD];exact HCE.o _ HDR.o) ?_
    rw [hVD]
    clear hVD
    iterate 13 (refine Kit.ghd (h:= ?_))
    refine Kit.gdn (h:=?_)
    go_wp2_with (first
     | (go_at_call 183
        (refine (HSPL.o _).mono ?_)
        rintro e w2 ⟨rfl,rfl⟩)
     | (go_at_call 122
        (refine (HIH.o _ (HA1.o _ HDR.o) (HLD.o _ HDR.o)).mono ?_)
        rintro e w3 ⟨u3,ok3,rfl,ho3,h3⟩
        have HO3:=hid ho3.o
        have H3:Hid (Below w.heap.size w w3):=hid (HDR.o.trans (h3.mono HDR.o.size))
        clear ho3 h3)
     | (go_at_call 177
        (refine (node_g u3 s (HO3.o.2.2) (by rw [HS32.o];decide) _ (HLD.o _ H3.o)).mono ?_)
        rintro e w4 ⟨u4,rfl,hu4,hz4,h4⟩
        have HU4:=hid hu4
        have HZ4:=hid hz4
        have H4:=hid (H3.o.trans (h4.mono H3.o.size))
        clear hu4 hz4 h4))
    go_ret2
    exact ⟨u4,ok3,rfl,hid (ClimbOut.left HSS.o HN2.o HK0.o HIK.o HO3.o HU4.o HZ4.o),H4.o⟩
   ·have hiki: ¬(i:Int)<(K:Int):=by omega
    obtain ⟨I,hI⟩:=ex_eq (i - K)
    obtain ⟨J,hJ⟩:=ex_eq (n - K)
    have HIJ:=hid (And.intro hI hJ)
    have hIi:(i:Int) - (K:Int)=(I:Int):=by omega
    have hJi:(n:Int) - (K:Int)=(J:Int):=by omega
    have hI9:I≤1000:=by omega
    have hJ9:J≤1000:=by omega
    have HIH:=hid (fun w hS hL=>ih J (by omega) (by omega) (by omega) I (by omega) (some ⟨bA,oA,none⟩) cap L1 (ss.take L1) hl1 ⟨by omega,by omega⟩ (fun s hs=>h32 s (List.mem_of_mem_take hs)) w hS hL)
    have HIK:=hid hik
    clear ih hl1 h32 hk1 hk2 hi hik hn1 hI hJ
    go_enter Tryz.func122,Tryz.ntmps122
    go_upto_region 5 with fail
    have HDR:Hid (Below w.heap.size w w.drew):=hid (Below.refl _ _).drew
    obtain ⟨VD,hVD⟩:=ex_eq w.drew
    rw [hVD] at HDR
    refine Kit.wp_region_gplan (fun V=>V.cell? ⟨bA,oA+L1,none⟩=some (.string s)) [(true,0),(true,1),(true,2),(true,3),(true,4),(true,5),(true,6),(true,7),(true,8),(true,9),(true,10),(true,11),(true,12)] (by kernel_rfl) (by kernel_rfl) (by kernel_rfl) (by kernel_rfl) (by rw [hVD];exact HCE.o _ HDR.o) ?_
    rw [hVD]
    clear hVD
    iterate 13 (refine Kit.ghd (h:= ?_))
    refine Kit.gdn (h:=?_)
    go_wp2_with (first
     | (go_at_call 183
        (refine (HSPL.o _).mono ?_)
        rintro e w2 ⟨rfl,rfl⟩)
     | (go_at_call 122
        (refine (HIH.o _ (HA1.o _ HDR.o) (HLD.o _ HDR.o)).mono ?_)
        rintro e w3 ⟨u3,ok3,rfl,ho3,h3⟩
        have HO3:=hid ho3.o
        have H3:Hid (Below w.heap.size w w3):=hid (HDR.o.trans (h3.mono HDR.o.size))
        clear ho3 h3)
     | (go_at_call 177
        (refine (node_g s u3 (by rw [HS32.o];decide) (HO3.o.2.2) _ (HLD.o _ H3.o)).mono ?_)
        rintro e w4 ⟨u4,rfl,hu4,hz4,h4⟩
        have HU4:=hid hu4
        have HZ4:=hid hz4
        have H4:=hid (H3.o.trans (h4.mono H3.o.size))
        clear hu4 hz4 h4))
    go_ret2
    exact ⟨u4,ok3,rfl,hid (ClimbOut.right HSS.o HN2.o HK0.o HIK.o HIJ.o.1 HIJ.o.2 HO3.o HU4.o HZ4.o),H4.o⟩
theorem verifyM_ok (l:ByteArray) (hl:l.size=32) (i n:Nat) (hn1:1≤n) (hn9:n≤256) (hi:i<n) (a:Option Addr) (cap L:Nat) (ss:List ByteArray) (hLe:ss.length=L) (hcap:L≤cap) (hl9:L≤1000000) (h32: ∀s ∈ ss,s.size=32) (root:ByteArray) (hr:root.size=32) (w:World) (hS:StrsAt w a ss) (hLd:Laid w):
    Calls Tryz.prog 33 #[.string l,.int .i64 (i:Int),.int .i64 (n:Int),.slice a L cap,.string root] w fun e w'=>e= .returned (.bool (decide (Mrk.climbM (nb l) i n (ss.map nb)=some (nb root))))∧Below w.heap.size w w':=by
 obtain ⟨D,hD⟩:=ex_eq (decide (Mrk.climbM (nb l) i n (ss.map nb)=some (nb root)))
 have HD:=hid hD
 rw [hD]
 have HI1:=hid (fun w=>isSumM_any l w)
 have HI2:=hid (fun w=>isSumM_any root w)
 rw [decide_eq_true hl] at HI1
 rw [decide_eq_true hr] at HI2
 have HAS:=hid (areSumsM_any a cap L ss hLe (by omega) w hS)
 rw [all32_iff.2 h32] at HAS
 have HCL:Hid (∀V,Below w.heap.size w V→Calls Tryz.prog 122 #[.string l,.int .i64 (i:Int),.int .i64 (n:Int),.slice a L cap] V fun e w'=> ∃(u:ByteArray) (ok:Bool),e= .returned (.tuple #[.string u,.bool ok])∧Hid (ClimbOut l i n ss u ok)∧Below V.heap.size V w'):=hid (fun V h=>climbM_any l hl n hn1 hn9 i hi a cap L ss hLe ⟨hcap,hl9⟩ h32 V (hS.later h) (hLd.later h (Nat.le_refl _)))
 have hii:(i:Int)<(n:Int):=by omega
 have hi0: ¬(i:Int)<0:=by omega
 clear hD hl hr h32 hS hLd hLe hcap hi
 go_enter Tryz.func33,Tryz.ntmps33
 go_upto_region 4 with (first
  | (go_at_call 120
     (with_reducible refine (HI1.o _).mono ?_)
     rintro e w2 ⟨rfl,rfl⟩)
  | (go_at_call 120
     (with_reducible refine (HI2.o _).mono ?_)
     rintro e w2 ⟨rfl,rfl⟩)
  | (go_at_call 121
     (with_reducible refine HAS.o.mono ?_)
     rintro e w3 ⟨rfl,h3⟩
     have H3:=hid h3
     clear h3)
  | (go_at_call 122
     (with_reducible refine (HCL.o _ H3.o).mono ?_)
     rintro e w4 ⟨u,ok,rfl,ho,h4⟩
     have HO:=hid ho.o
     have H4:Hid (Below w.heap.size w w4):=hid (H3.o.trans (h4.mono H3.o.size))
     clear ho h4))
 cases ok
 ·have HF:Hid (D=false):=hid (by
     rw [← HD.o]
     refine decide_eq_false (fun h=> ?_)
     have h1:=HO.o.1
     rw [h] at h1
     cases h1)
  go_wp2_with fail
  go_ret
  exact ⟨by rw [HF.o];first | rfl | simp,H4.o⟩
 ·have HS:Hid (Mrk.climbM (nb l) i n (ss.map nb)=some (nb u)):=hid (by
     have h1:=HO.o.1
     cases hc:Mrk.climbM (nb l) i n (ss.map nb) with
     | none=>rw [hc] at h1;cases h1
     | some y=>rw [HO.o.2.1 y hc])
  have HE:Hid (D=decide (u=root)):=hid (by
   rw [← HD.o,HS.o]
   refine decide_eq_decide.2 ⟨fun h=>nb_inj (Option.some.inj h),fun h=>by rw [h]⟩)
  by_cases he:u=root
  ·have hq:(u.toList==root.toList)=true:=by rw [eq_str];exact decide_eq_true (congrArg nb he)
   have HT:Hid (D=true):=hid (by rw [HE.o];exact decide_eq_true he)
   clear he
   go_wp2_with fail
   go_ret
   exact ⟨by rw [HT.o];first | rfl | simp,H4.o⟩
  ·have hq:(u.toList==root.toList)=false:=by rw [eq_str];exact decide_eq_false (fun h=>he (nb_inj h))
   have HT:Hid (D=false):=hid (by rw [HE.o];exact decide_eq_false he)
   clear he
   go_wp2_with fail
   go_ret
   exact ⟨by rw [HT.o];first | rfl | simp,H4.o⟩
end Go.Proofs.YtndlihclgdkpaaaGreatDoor
