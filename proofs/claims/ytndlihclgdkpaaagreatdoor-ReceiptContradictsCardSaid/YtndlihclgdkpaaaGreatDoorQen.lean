/- receipt: the signed fields, leaves, batches and encodings. -/
import Derived.Test.YtndlihclgdkpaaaGreatDoorGe
import Derived.Test.YtndlihclgdkpaaaGreatDoorGg
import Derived.Test.YtndlihclgdkpaaaGreatDoorGh
import Derived.Test.YtndlihclgdkpaaaGreatDoorQva
import Derived.Test.YtndlihclgdkpaaaGreatDoorQwr
set_option linter.unusedVariables false
set_option linter.unusedSimpArgs false
open Go.Lib (hid)
set_option maxHeartbeats 4000000
set_option maxRecDepth 100000
namespace Go.Proofs.YtndlihclgdkpaaaGreatDoor
open Go.RowKit
open Kit (Chg)
open Sha (v)
open Go.Proofs.YtndlihclgdkpaaaGreatDoor.One

structure SgV (r:Rc):Prop where
 h0:0≤r.hol
 h1:r.hol≤11
 gd:GoodP r.vlt r.str r.ix r.sz
 d0:0≤r.day
 d1:r.day≤999999
 s0:0≤r.ser
 s1:r.ser≤1099511627776
theorem ValidR.sgv {r:Rc} (h:ValidR r):SgV r:=⟨h.h0,h.h1,h.gd,h.d0,h.d1,h.s0,h.s1⟩
theorem encS_lenV {r:Rc} (h:SgV r):(encS r).length≤100:=by
 have h1:=num_len40 (n:=r.hol.toNat) (by have:=h.h1;omega)
 have h2:=num_len40 (n:=r.vlt.toNat) (by have:=h.gd.v1;omega)
 have h3:=num_len40 (n:=r.ix.toNat) (by have:=h.gd.i1;omega)
 have h4:=num_len40 (n:=r.sz.toNat) (by have:=h.gd.s1;omega)
 have h5:=num_len40 (n:=r.day.toNat) (by have:=h.d1;omega)
 have h6:=num_len40 (n:=r.ser.toNat) (by have:=h.s1;omega)
 have h7:=nb_length r.str
 have h8:=h.gd.st
 unfold encS encS.headN
 simp only [List.length_append,List.flatMap_cons,List.flatMap_nil,List.length_nil]
 omega
theorem encS_cat (d0 d1:Nat) (str:ByteArray) (d2 d3 d4 d5:Nat) (cnt pl:Int) (root:ByteArray) (pa:List ByteArray) (si:Int) (pt sq:List ByteArray):num d0++num d1++nb str++headE ([d2,d3,d4,d5].take 4)=encS ⟨(d0:Int),(d1:Int),str,(d2:Int),(d3:Int),(d4:Int),(d5:Int),cnt,pl,root,pa,si,pt,sq⟩:=by
 unfold encS encS.headN headE
 simp
theorem writeSigned_ok (hol vlt:Int) (str:ByteArray) (ix sz day ser cnt pl:Int) (root:ByteArray) (ap:Option Addr) (n1 c1:Nat) (si:Int) (aq:Option Addr) (n2 c2:Nat) (ar:Option Addr) (n3 c3:Nat) (pa pt sq:List ByteArray) (hv:SgV ⟨hol,vlt,str,ix,sz,day,ser,cnt,pl,root,pa,si,pt,sq⟩) (g:Nat) (w:World) (hg:w.heap[g]? =some (.cells #[.slice none 0 0,.int .i64 0] 265 (0,0))):
    Calls Tryz.prog 104 #[.pointer (some ⟨g,0,none⟩),.agg #[.int .i64 hol,.int .i64 vlt,.string str,.int .i64 ix,.int .i64 sz,.int .i64 day,.int .i64 ser,.int .i64 cnt,.int .i64 pl,.string root,.slice ap n1 c1,.int .i64 si,.slice aq n2 c2,.slice ar n3 c3]] w fun e w'=>e= .returned (.tuple #[])∧WrAt w' g (w.heap.size+1) (encS ⟨hol,vlt,str,ix,sz,day,ser,cnt,pl,root,pa,si,pt,sq⟩)∧Chg (fun q _=>q=g) w w':=by
 obtain ⟨d0,rfl⟩: ∃n:Nat,hol=(n:Int):=⟨hol.toNat,by have:=hv.h0;simp only at this;omega⟩
 obtain ⟨d1,rfl⟩: ∃n:Nat,vlt=(n:Int):=⟨vlt.toNat,by have:=hv.gd.v0;simp only at this;omega⟩
 obtain ⟨d2,rfl⟩: ∃n:Nat,ix=(n:Int):=⟨ix.toNat,by have:=hv.gd.i0;simp only at this;omega⟩
 obtain ⟨d3,rfl⟩: ∃n:Nat,sz=(n:Int):=⟨sz.toNat,by have:=hv.gd.s0;simp only at this;omega⟩
 obtain ⟨d4,rfl⟩: ∃n:Nat,day=(n:Int):=⟨day.toNat,by have:=hv.d0;simp only at this;omega⟩
 obtain ⟨d5,rfl⟩: ∃n:Nat,ser=(n:Int):=⟨ser.toNat,by have:=hv.s0;simp only at this;omega⟩
 have HQ0:Hid (d0≤11∧d1≤11∧str.size=32):=hid ⟨by have:=hv.h1;simp only at this;omega,by have:=hv.gd.v1;simp only at this;omega,hv.gd.st⟩
 have HQ:Hid (∀x ∈ [d2,d3,d4,d5],x≤1099511627776):=hid (by
  have h1:=hv.gd.i1
  have h2:=hv.gd.s1
  have h3:=hv.d1
  have h4:=hv.s1
  simp only at h1 h2 h3 h4
  intro x hx
  simp only [List.mem_cons,List.not_mem_nil,or_false] at hx
  rcases hx with rfl | rfl | rfl | rfl<;> omega)
 have HT:=hid (encS_cat d0 d1 str d2 d3 d4 d5 cnt pl root pa si pt sq)
 obtain ⟨T,hT⟩:=ex_eq (encS ⟨(d0:Int),(d1:Int),str,(d2:Int),(d3:Int),(d4:Int),(d5:Int),cnt,pl,root,pa,si,pt,sq⟩)
 rw [hT] at HT ⊢
 have HGW:=hid hg
 have HGS:Hid (g<w.heap.size):=hid (gS hg).1
 have hwu0:IntKind.u64.wrap (d0:Int)=(d0:Int):=by have:=HQ0.o.1;rw [IntKind.wrap_u64];omega
 have hwu1:IntKind.u64.wrap (d1:Int)=(d1:Int):=by have:=HQ0.o.2.1;rw [IntKind.wrap_u64];omega
 clear hT hg hv
 go_enter Tryz.func104,Tryz.ntmps104
 go_upto_region 1 with fail
 refine wp_over (fun W=>Hid (W.heap[w.heap.size]? =some (.cells #[.int .i64 (d0:Int),.int .i64 (d1:Int),.string str,.int .i64 (d2:Int),.int .i64 (d3:Int),.int .i64 (d4:Int),.int .i64 (d5:Int),.int .i64 cnt,.int .i64 pl,.string root,.slice ap n1 c1,.int .i64 si,.slice aq n2 c2,.slice ar n3 c3] 47 (0,0)))∧Hid (Below w.heap.size w W)∧Hid (W.heap.size=w.heap.size+1)) ⟨heap_alloc_new _ _,(Below.refl _ _).alloc (Nat.le_refl _) _,by show _=_;simp⟩ ?_
 rintro W ⟨HG,HB,HWS⟩
 have HBW0:Hid (∀V,Below (w.heap.size+1) W V→Below w.heap.size w V):=hid (fun V h=>HB.o.trans (h.mono (Nat.le_succ _)))
 obtain ⟨N,hN⟩:=ex_eq w.heap.size
 have HN:=hid hN
 have HBW:Hid (∀V,Below (N+1) W V→Below w.heap.size w V):=hid (fun V h=>HBW0.o V (by rw [hN];exact h))
 rw [hN] at HG HB HWS ⊢
 clear hN HBW0
 have HGN:Hid (g<N):=hid (by rw [← HN.o];exact HGS.o)
 have HW0:Hid (WrAt W g (N+1) []):=hid (WrAt.start ((HB.o.block g HGN.o).trans HGW.o) (Nat.lt_succ_of_lt HGN.o) (Nat.le_of_eq HWS.o.symm))
 have HCC:Hid (∀V,Chg (WrM g (N+1)) W V→V.cell? ⟨N,0,none⟩=some (.int .i64 (d0:Int))∧V.cell? ⟨N,1,none⟩=some (.int .i64 (d1:Int))∧V.cell? ⟨N,2,none⟩=some (.string str)∧V.cell? ⟨N,3,none⟩=some (.int .i64 (d2:Int))∧V.cell? ⟨N,4,none⟩=some (.int .i64 (d3:Int))∧V.cell? ⟨N,5,none⟩=some (.int .i64 (d4:Int))∧V.cell? ⟨N,6,none⟩=some (.int .i64 (d5:Int))∧V.cell? ⟨N,7,none⟩=some (.int .i64 cnt)∧V.cell? ⟨N,8,none⟩=some (.int .i64 pl)∧V.cell? ⟨N,9,none⟩=some (.string root)∧V.cell? ⟨N,10,none⟩=some (.slice ap n1 c1)∧V.cell? ⟨N,11,none⟩=some (.int .i64 si)∧V.cell? ⟨N,12,none⟩=some (.slice aq n2 c2)∧V.cell? ⟨N,13,none⟩=some (.slice ar n3 c3)):=hid (fun V h=>row14 ((h.other N (by rw [HWS.o];exact Nat.lt_succ_self _) (fun i hm=>by have:=HGN.o;rcases hm with hm | hm<;> omega)).trans HG.o))
 have HL:Hid (Chg (WrM g (N+1)) W W):=hid (Chg.refl _ _)
 obtain ⟨q0,q1,q2,q3,q4,q5,q6,q7,q8,q9,q10,q11,q12,q13⟩:=HCC.o _ HL.o
 go_upto_region 2 with (first
  | (go_at_call 105
     (with_reducible refine (wrUint_ok g (N+1) [] d0 (by have:=HQ0.o.1;omega) (by decide) _ HW0.o).mono ?_)
     rintro e w2 ⟨rfl,hw,h2⟩
     have HWN:=hid (hw)
     have HM:=hid (HL.o.trans h2)
     clear hw h2 HL HW0 q0 q1 q2 q3 q4 q5 q6 q7 q8 q9 q10 q11 q12 q13
     have HL:=HM
     have HW0:=HWN
     clear HM HWN
     obtain ⟨q0,q1,q2,q3,q4,q5,q6,q7,q8,q9,q10,q11,q12,q13⟩:=HCC.o _ HL.o))
 go_upto_region 3 with (first
  | (go_at_call 105
     (with_reducible refine (wrUint_ok g (N+1) _ d1 (by have:=HQ0.o.2.1;omega) (by have:=num_len40 (n:=d0) (by have:=HQ0.o.1;omega);rw [List.nil_append];omega) _ HW0.o).mono ?_)
     rintro e w2 ⟨rfl,hw,h2⟩
     have HWN:=hid (hw)
     have HM:=hid (HL.o.trans h2)
     clear hw h2 HL HW0 q0 q1 q2 q3 q4 q5 q6 q7 q8 q9 q10 q11 q12 q13
     have HL:=HM
     have HW0:=HWN
     clear HM HWN
     obtain ⟨q0,q1,q2,q3,q4,q5,q6,q7,q8,q9,q10,q11,q12,q13⟩:=HCC.o _ HL.o))
 go_upto_region 4 with (first
  | (go_at_call 107
     (with_reducible refine (wrSum_ok g (N+1) _ str HQ0.o.2.2 (by have:=num_len40 (n:=d0) (by have:=HQ0.o.1;omega);have:=num_len40 (n:=d1) (by have:=HQ0.o.2.1;omega);rw [List.nil_append,List.length_append];omega) _ HW0.o).mono ?_)
     rintro e w2 ⟨rfl,hw,h2⟩
     have HWN:=hid (hw)
     have HM:=hid (HL.o.trans h2)
     clear hw h2 HL HW0 q0 q1 q2 q3 q4 q5 q6 q7 q8 q9 q10 q11 q12 q13
     have HL:=HM
     have HW0:=HWN
     clear HM HWN
     obtain ⟨q0,q1,q2,q3,q4,q5,q6,q7,q8,q9,q10,q11,q12,q13⟩:=HCC.o _ HL.o))
 rename World=>w5
 have HLB:Hid ((num d0++num d1++nb str).length≤100):=hid (by have:=num_len40 (n:=d0) (by have:=HQ0.o.1;omega);have:=num_len40 (n:=d1) (by have:=HQ0.o.2.1;omega);rw [List.length_append,List.length_append,nb_length,HQ0.o.2.2];omega)
 have HW5:Hid (WrAt w5 g (N+1) (num d0++num d1++nb str)):=hid (HW0.o.len (by rw [List.nil_append]))
 obtain ⟨bs3,hbs3⟩:=ex_eq (num d0++num d1++nb str)
 rw [hbs3] at HLB HW5 HT
 clear hbs3 HW0
 go_upto_region 5 with fail
 refine wp_over (fun V=>Hid (V.heap[w5.heap.size]? =some (.cells #[.int .i64 (d2:Int),.int .i64 (d3:Int),.int .i64 (d4:Int),.int .i64 (d5:Int)] 3 (0,0)))∧Hid (Below w5.heap.size w5 V)∧Hid (V.heap.size=w5.heap.size+1)) ⟨heap_alloc_new _ _,(Below.refl _ _).alloc (Nat.le_refl _) _,by show _=_;simp⟩ ?_
 rintro W4 ⟨HG4,HB4,HZ4⟩
 obtain ⟨k0,hk0,hx0⟩:=HW5.o.x
 have HW4:=hid (hx0 W4 HB4.o)
 have HK0:=hid hk0
 clear hk0 hx0 q0 q1 q2 q3 q4 q5 q6 q7 q8 q9 q10 q11 q12 q13
 have HN5:Hid (N+1≤w5.heap.size):=hid (by have:=HL.o.size;have:=HWS.o;omega)
 obtain ⟨X,hX⟩: ∃X:Nat→Prop,X=fun q=>q<W4.heap.size∧q≠g∧q≠k0:=⟨_,rfl⟩
 have HX4:Hid (X w5.heap.size):=hid (by rw [hX];exact ⟨by have:=HZ4.o;omega,by have:=HGN.o;have:=HN5.o;omega,by have:=HGN.o;have:=HN5.o;rcases HK0.o with h | h<;> omega⟩)
 have HXO:Hid (∀q,q≤N→q≠g→X q):=hid (fun q hq hn=>by rw [hX];exact ⟨by have:=HZ4.o;have:=HN5.o;omega,hn,by have:=HGN.o;rcases HK0.o with h | h<;> omega⟩)
 rw [← hX] at HW4
 clear hX HK0
 have HB54:Hid (Chg (WrM g (N+1)) W W4):=hid (HL.o.trans (Chg.of_below HB4.o))
 have HIN4:Hid (IntsAt W4 (some ⟨w5.heap.size,0,none⟩) [d2,d3,d4,d5]):=hid (ints_of_row (zs:=[d2,d3,d4,d5]) HG4.o)
 obtain ⟨N4,hN4⟩:=ex_eq w5.heap.size
 rw [hN4] at HG4 HIN4 HX4 ⊢
 have HZ5:Hid (N4<W4.heap.size):=hid (by have:=HZ4.o;omega)
 clear hN4 HZ4 HB4 HL HCC HN5
 have HI4:Hid (∀V,Chg (NotX X) W4 V→ ∀i,i<4→V.cell? ⟨N4,i,none⟩=some (.int .i64 (([d2,d3,d4,d5].getD i 0:Nat):Int))):=hid (fun V h i hi=>by
  rcases HIN4.o with h0 | ⟨b,o,e,h0⟩
  ·cases h0
  ·cases e
   have h1:=h0 i hi
   rw [Nat.zero_add] at h1
   exact h.cell h1 (fun hm=>hm HX4.o))
 go_loopw [5,32] (fun _ z wr=> ∃k:Nat,k≤4∧z= .int .i64 (k:Int)∧Hid (WrX wr g (N+1) X (bs3++headE ([d2,d3,d4,d5].take k)))∧Hid (Chg (NotX X) W4 wr)) (fun _ z _=>4 - (intOf z).toNat)
 case atStart=>exact ⟨0,by omega,rfl,hid (HW4.o.cat (by unfold headE;simp)),hid (Chg.refl _ _)⟩
 case round=>
  obtain ⟨k,hk,rfl,HWR,HBE⟩:=hrel
  by_cases hlt:k<4
  ·have hki:(k:Int)<4:=by omega
   have hck:=HI4.o _ HBE.o k hlt
   have HDK:Hid ([d2,d3,d4,d5].getD k 0≤1099511627776):=hid (HQ.o _ (getD_mem _ k 0 hlt))
   have HSN:=hid (headE_snoc [d2,d3,d4,d5] k hlt)
   have HHL:=hid (headE_len [d2,d3,d4,d5] HQ.o k)
   obtain ⟨d,hd⟩:=ex_eq ([d2,d3,d4,d5].getD k 0)
   rw [hd] at hck HDK HSN
   clear hd
   have hwu:IntKind.u64.wrap (d:Int)=(d:Int):=by have:=HDK.o;rw [IntKind.wrap_u64];omega
   go_wp2_with (first
    | (go_at_call 105
       (refine (wrUint_x g (N+1) X _ d (by have:=HDK.o;omega) (by rw [List.length_append];have:=HHL.o;have:=HLB.o;omega) wr HWR.o).mono ?_)
       rintro e w5 ⟨rfl,hw5,h5⟩
       have HW5:=hid (hw5.cat (show _=bs3++headE ([d2,d3,d4,d5].take (k+1)) by rw [HSN.o,List.append_assoc]))
       have H5:=hid (HBE.o.trans h5)
       clear hw5 h5))
   go_roundw
   case rel=>exact ⟨k+1,hlt,by go_num,HW5,H5⟩
   case measure=>simp [intOf];omega
  ·have hki: ¬(k:Int)<4:=by omega
   have hke:k=4:=by omega
   have HW6:Hid (WrAt wr g (N+1) T):=hid (by have h1:=HWR.o.at;rw [hke,HT.o] at h1;exact h1)
   clear hke
   go_wp2_with fail
   go_end0
   refine ⟨rfl,by rw [HN.o];exact HW6.o,?_⟩
   have e1:Chg (fun q _=>q=g) w W:=Chg.of_below (by rw [HN.o];exact HB.o)
   have e2:Chg (fun q i=>q=g∨N≤q) w wr:=(e1.mono (fun q i _ h=> .inl h)).trans ((HB54.o.mono (fun q i _ h=>by rcases h with h | h;exact .inl h;exact .inr (by omega))).trans (HBE.o.mono (fun q i _ h=>by
    by_cases hq:q≤N
    ·by_cases hg:q=g
     ·exact .inl hg
     ·exact absurd (HXO.o q hq hg) h
    ·exact .inr (by omega))))
   exact e2.mono (fun q i hq h=>by
    rcases h with h | h
    ·exact h
    ·have:=HN.o;omega)
theorem leafR_ok (hol vlt:Int) (str:ByteArray) (ix sz day ser cnt pl:Int) (root:ByteArray) (ap:Option Addr) (n1 c1:Nat) (si:Int) (aq:Option Addr) (n2 c2:Nat) (ar:Option Addr) (n3 c3:Nat) (pa pt sq:List ByteArray) (hv:SgV ⟨hol,vlt,str,ix,sz,day,ser,cnt,pl,root,pa,si,pt,sq⟩) (T:List Nat) (hT:leafR ⟨hol,vlt,str,ix,sz,day,ser,cnt,pl,root,pa,si,pt,sq⟩=T) (w:World) (hLd:Laid w):
    Calls Tryz.prog 89 #[.agg #[.int .i64 hol,.int .i64 vlt,.string str,.int .i64 ix,.int .i64 sz,.int .i64 day,.int .i64 ser,.int .i64 cnt,.int .i64 pl,.string root,.slice ap n1 c1,.int .i64 si,.slice aq n2 c2,.slice ar n3 c3]] w fun e w'=> ∃u:ByteArray,e= .returned (.string u)∧nb u=T∧u.size=32∧Below w.heap.size w w':=by
 have HWG:=hid (fun g w h=>writeSigned_ok hol vlt str ix sz day ser cnt pl root ap n1 c1 si aq n2 c2 ar n3 c3 pa pt sq hv g w h)
 have HEL:Hid ((encS ⟨hol,vlt,str,ix,sz,day,ser,cnt,pl,root,pa,si,pt,sq⟩).length≤100):=hid (encS_lenV hv)
 have HE0:Hid (0<(encS ⟨hol,vlt,str,ix,sz,day,ser,cnt,pl,root,pa,si,pt,sq⟩).length):=hid (by unfold encS;simp only [List.length_append,nb_length,hv.gd.st];omega)
 have HT:Hid (Mrk.leaf (encS ⟨hol,vlt,str,ix,sz,day,ser,cnt,pl,root,pa,si,pt,sq⟩)=T):=hid hT
 have HLD:=hid hLd
 obtain ⟨E,hE⟩:=ex_eq (encS ⟨hol,vlt,str,ix,sz,day,ser,cnt,pl,root,pa,si,pt,sq⟩)
 rw [hE] at HWG HEL HE0 HT
 clear hv hT hLd hE
 go_enter Tryz.func89,Tryz.ntmps89
 go_upto_region 1 with fail
 refine wp_over (fun W=>Hid (W.heap[w.heap.size]? =some (.cells #[.int .i64 hol,.int .i64 vlt,.string str,.int .i64 ix,.int .i64 sz,.int .i64 day,.int .i64 ser,.int .i64 cnt,.int .i64 pl,.string root,.slice ap n1 c1,.int .i64 si,.slice aq n2 c2,.slice ar n3 c3] 47 (0,0)))∧Hid (Below w.heap.size w W)∧Hid (W.heap.size=w.heap.size+1)) ⟨heap_alloc_new _ _,(Below.refl _ _).alloc (Nat.le_refl _) _,by show _=_;simp⟩ ?_
 rintro W ⟨HG,HB,HWS⟩
 have HBW0:Hid (∀V,Below (w.heap.size+1) W V→Below w.heap.size w V):=hid (fun V h=>HB.o.trans (h.mono (Nat.le_succ _)))
 obtain ⟨N,hN⟩:=ex_eq w.heap.size
 have HN:=hid hN
 have HBW:Hid (∀V,Below (N+1) W V→Below w.heap.size w V):=hid (fun V h=>HBW0.o V (by rw [hN];exact h))
 rw [hN] at HG HB HWS ⊢
 clear hN HBW0
 have HCC:Hid (∀V,Below (N+1) W V→V.cell? ⟨N,0,none⟩=some (.int .i64 hol)∧V.cell? ⟨N,1,none⟩=some (.int .i64 vlt)∧V.cell? ⟨N,2,none⟩=some (.string str)∧V.cell? ⟨N,3,none⟩=some (.int .i64 ix)∧V.cell? ⟨N,4,none⟩=some (.int .i64 sz)∧V.cell? ⟨N,5,none⟩=some (.int .i64 day)∧V.cell? ⟨N,6,none⟩=some (.int .i64 ser)∧V.cell? ⟨N,7,none⟩=some (.int .i64 cnt)∧V.cell? ⟨N,8,none⟩=some (.int .i64 pl)∧V.cell? ⟨N,9,none⟩=some (.string root)∧V.cell? ⟨N,10,none⟩=some (.slice ap n1 c1)∧V.cell? ⟨N,11,none⟩=some (.int .i64 si)∧V.cell? ⟨N,12,none⟩=some (.slice aq n2 c2)∧V.cell? ⟨N,13,none⟩=some (.slice ar n3 c3)):=hid (fun V h=>row14 ((h.block N (Nat.lt_succ_self _)).trans HG.o))
 have HST:Hid (∀V V',Below (N+1) W V→Below V.heap.size V V'→Below (N+1) W V'):=hid (fun V V' h h'=>h.trans (h'.mono (by have:=h.size;have:=HWS.o;omega)))
 have HL:Hid (Below (N+1) W W):=hid (Below.refl _ _)
 obtain ⟨q0,q1,q2,q3,q4,q5,q6,q7,q8,q9,q10,q11,q12,q13⟩:=HCC.o _ HL.o
 go_wp2_with (first
  | (go_at_call 103
     (with_reducible refine (newWriter_ok _).mono ?_)
     rintro e w3 ⟨g,rfl,hg3,hle3,h3⟩
     have HG3:=hid hg3
     have H3:Hid (Below (N+1) W w3):=hid (HST.o _ _ HL.o h3)
     have HGN:Hid (N+1≤g):=hid (by have:=HWS.o;omega)
     clear hg3 h3 hle3 q0 q1 q2 q3 q4 q5 q6 q7 q8 q9 q10 q11 q12 q13
     obtain ⟨q0,q1,q2,q3,q4,q5,q6,q7,q8,q9,q10,q11,q12,q13⟩:=HCC.o _ H3.o)
  | (go_at_call 104
     (with_reducible refine (HWG.o _ _ HG3.o).mono ?_)
     rintro e w4 ⟨rfl,hw4,h4⟩
     have HW4:=hid hw4
     have H4:Hid (Below (N+1) W w4):=hid (H3.o.trans (h4.below (by have:=H3.o.size;have:=HWS.o;omega) (fun k i hk hm=>by have:=HGN.o;omega)))
     clear hw4 h4 q0 q1 q2 q3 q4 q5 q6 q7 q8 q9 q10 q11 q12 q13)
  | (go_at_call 108
     (with_reducible refine (wrDone_ok g _ _ (by have:=HEL.o;omega) _ HW4.o).mono ?_)
     rintro e w5 ⟨ad,L,cap,rfl,hL5,hle5,hB5,hn5,hb5,h5⟩
     obtain ⟨bk,o,rfl,_⟩:=hB5.some HE0.o
     have HL5:=hid hL5
     have HLE5:=hid hle5
     have HB5:=hid hB5
     have H5:Hid (Below (N+1) W w5):=hid (HST.o _ _ H4.o h5)
     have HBK:Hid (bk<w5.heap.size):=hid (hB5.blk _ rfl (fun e=>by have:=HE0.o;rw [e] at this;simp at this))
     clear hL5 hle5 hB5 hn5 hb5 h5)
  | (go_at_call 83
     (with_reducible refine (leaf_l bk o cap E L HL5.o HLE5.o (by have:=HEL.o;have:=HL5.o;omega) _ HB5.o HBK.o (HLD.o.later (HBW.o _ H5.o) (Nat.le_refl _)) T HT.o).mono ?_)
     rintro e w6 ⟨u,rfl,hu,hz,h6⟩
     have HU:=hid hu
     have HZ:=hid hz
     have H6:Hid (Below (N+1) W w6):=hid (HST.o _ _ H5.o h6)
     clear hu hz h6))
 go_ret
 exact ⟨u,rfl,HU.o,HZ.o,HBW.o _ H6.o⟩
theorem word_lit:nb { data:= #[114,101,99,101,105,112,116,115] }=wordR:=rfl
theorem word_size:ByteArray.size { data:= #[114,101,99,101,105,112,116,115] }=8:=rfl
theorem encB_len (root:List Nat) (hr:root.length=32) (n:Nat) (hn:n≤1000):(encB root n).length≤100:=by
 have h1:=num_len40 (n:=n) (by omega)
 have h2:=num_len40 (n:=8) (by omega)
 unfold encB
 simp only [List.length_append,hr,wordR,List.length_cons,List.length_nil]
 omega
theorem batch_ok (root:ByteArray) (hr:root.size=32) (n:Nat) (hn:n≤1000) (T:List Nat) (hT:batchR (nb root) n=T) (w:World) (hLd:Laid w):
    Calls Tryz.prog 92 #[.string root,.int .i64 (n:Int)] w fun e w'=> ∃u:ByteArray,e= .returned (.string u)∧nb u=T∧u.size=32∧Below w.heap.size w w':=by
 have HEL:=hid (encB_len (nb root) (by rw [nb_length];exact hr) n hn)
 have HT:Hid (Sha.sum (encB (nb root) n)=T):=hid hT
 have HE:Hid ([]++(num 8++nb { data:= #[114,101,99,101,105,112,116,115] })++nb root++num n=encB (nb root) n):=hid (by rw [word_lit];unfold encB;simp)
 have HL1:Hid (([]++(num 8++nb { data:= #[114,101,99,101,105,112,116,115] })).length≤100∧([]++(num 8++nb { data:= #[114,101,99,101,105,112,116,115] })++nb root).length≤100):=hid (by
  have h1:=num_len40 (n:=8) (by omega)
  rw [word_lit]
  simp only [List.nil_append,List.length_append,nb_length,hr,wordR,List.length_cons,List.length_nil]
  omega)
 have HLD:=hid hLd
 have HR:=hid hr
 have HNN:=hid hn
 have hwu:IntKind.u64.wrap (n:Int)=(n:Int):=by rw [IntKind.wrap_u64];omega
 obtain ⟨E,hE⟩:=ex_eq (encB (nb root) n)
 rw [hE] at HEL HT HE
 clear hE hT hr hn hLd
 obtain ⟨N,hN⟩:=ex_eq w.heap.size
 have HN:=hid hN
 clear hN
 go_enter Tryz.func92,Tryz.ntmps92
 go_wp2_with (first
  | (go_at_call 103
     (with_reducible refine (newWriter_ok _).mono ?_)
     rintro e w3 ⟨g,rfl,hg3,hle3,h3⟩
     have HW3:Hid (WrAt w3 g (g+1) []):=hid (WrAt.start hg3 (Nat.lt_succ_self g) (gS hg3).1)
     have H3:=hid h3
     have HGN:=hid hle3
     clear hg3 h3 hle3)
  | (go_at_call 186
     (with_reducible refine (wrText_ok g _ _ { data:= #[114,101,99,101,105,112,116,115] } 8 word_size (by decide) (by decide) _ HW3.o).mono ?_)
     rintro e w4 ⟨rfl,hw4,h4⟩
     have HW4:=hid hw4
     have H4:Hid (Below w.heap.size w w4):=hid (H3.o.trans (h4.below H3.o.size (fun k i hk hm=>by have:=HGN.o;rcases hm with hm | hm<;> omega)))
     clear hw4 h4)
  | (go_at_call 107
     (with_reducible refine (wrSum_ok g _ _ root HR.o (by have:=HL1.o.1;omega) _ HW4.o).mono ?_)
     rintro e w5 ⟨rfl,hw5,h5⟩
     have HW5:=hid hw5
     have H5:Hid (Below w.heap.size w w5):=hid (H4.o.trans (h5.below H4.o.size (fun k i hk hm=>by have:=HGN.o;rcases hm with hm | hm<;> omega)))
     clear hw5 h5)
  | (go_at_call 105
     (with_reducible refine (wrUint_ok g _ _ n (by have:=HNN.o;omega) (by have:=HL1.o.2;omega) _ HW5.o).mono ?_)
     rintro e w6 ⟨rfl,hw6,h6⟩
     have HW6:Hid (WrAt w6 g (g+1) E):=hid (hw6.len HE.o)
     have H6:Hid (Below w.heap.size w w6):=hid (H5.o.trans (h6.below H5.o.size (fun k i hk hm=>by have:=HGN.o;rcases hm with hm | hm<;> omega)))
     clear hw6 h6)
  | (go_at_call 108
     (with_reducible refine (wrDone_ok g _ _ (by have:=HEL.o;omega) _ HW6.o).mono ?_)
     rintro e w7 ⟨ad,L,cap,rfl,hL7,hle7,hB7,hn7,hb7,h7⟩
     have HL7:=hid hL7
     have HLE7:Hid (E.length≤cap):=hid (by rw [hL7];exact hle7)
     have HB7:=hid hB7
     have HN7:=hid hn7
     have H7:Hid (Below w.heap.size w w7):=hid (H6.o.trans (h7.mono H6.o.size))
     have HBK:Hid (∀x,ad=some x→0<E.length→x.block<w7.heap.size):=hid (fun x e h0=>hB7.blk x e (fun e2=>by rw [e2] at h0;simp at h0))
     clear hL7 hle7 hB7 hn7 hb7 h7)
  | (go_at_call 157
     (with_reducible refine (sum_l ad cap E L HL7.o HLE7.o HN7.o (by have:=HEL.o;omega) _ HB7.o HBK.o (HLD.o.later H7.o (Nat.le_refl _))).mono ?_)
     rintro e w8 ⟨u,rfl,hu,h8⟩
     have HU:Hid (nb u=T):=hid (by rw [← HT.o];exact hu)
     have HZ:Hid (u.size=32):=hid (by rw [← nb_length,hu];exact Sha.sum_length _)
     have H8:Hid (Below w.heap.size w w8):=hid (H7.o.trans (h8.mono H7.o.size))
     clear hu h8))
 go_ret
 exact ⟨u,rfl,HU.o,HZ.o,H8.o⟩
end Go.Proofs.YtndlihclgdkpaaaGreatDoor
