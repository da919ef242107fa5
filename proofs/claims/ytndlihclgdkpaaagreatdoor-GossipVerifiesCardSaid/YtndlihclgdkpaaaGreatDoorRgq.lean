/- The document's Encode and Sum of an entry. -/
import Derived.Test.YtndlihclgdkpaaaGreatDoorRfq
import Derived.Test.YtndlihclgdkpaaaGreatDoorGsm
set_option linter.unusedVariables false
set_option linter.unusedSimpArgs false
open Go.Lib (hid)
set_option maxHeartbeats 1000000
set_option maxRecDepth 100000
namespace Go.Proofs.YtndlihclgdkpaaaGreatDoor
open Go.RowKit
open Kit (Chg)
open Sha (v)
open Go.Proofs.YtndlihclgdkpaaaGreatDoor.One

theorem vs_of_row {w:World} {b:Nat} {row:Array Value} {t:TypeId} {fr:Nat × Nat} {l:List RV} (hg:w.heap[b]? =some (.cells row t fr)) (h:(l.flatMap RV.cells).toArray=row):VsAt w (some ⟨b,0,none⟩) l:=by
 subst h
 refine .inr ⟨b,0,rfl,fun i hi j u hj=> ?_⟩
 rw [cell_of_row _ _ _ _ _ _ hg,Nat.zero_add]
 have hj6:j<6:=by have:=(List.getElem?_eq_some_iff.1 hj).1;rw [RV.len6] at this;exact this
 have H: ∀(l:List RV) (i:Nat) (hi:i<l.length),(l[i]).cells[j]? =some u→(l.flatMap RV.cells)[i*6+j]? =some u:=by
  intro l
  induction l with
  | nil=>intro i hi;simp at hi
  | cons x l ih=>
    intro i hi h
    rw [List.flatMap_cons]
    cases i with
    | zero=>rw [List.getElem?_append_left (by rw [RV.len6];omega),Nat.zero_mul,Nat.zero_add];exact h
    | succ i=>
      rw [List.getElem?_append_right (by rw [RV.len6];omega),RV.len6,show (i+1)*6+j - 6=i*6+j by omega]
      exact ih i (by simpa using hi) (by simpa using h)
 rw [List.getElem?_toArray]
 exact H l i hi hj
theorem refNum46_any (d:Nat) (hd:d<9223372036854775808) (w:World):Calls Tryz.prog 226 #[.int .i64 (d:Int)] w fun e w'=>e= .returned (.agg #[.int .i64 1,.int .u64 (d:Int),.int .i64 0,.bool false,.string { data:= #[] },.int .i64 0])∧Below w.heap.size w w':=by
 have hwu:IntKind.u64.wrap (d:Int)=(d:Int):=by rw [IntKind.wrap_u64];omega
 clear hd
 go_enter Tryz.func226,Tryz.ntmps226
 go_wp2_with fail
 refine bodyPost_ret (results_cell_row (p:=2) rfl _ _ w.heap.size 187 #[.int .i64 1,.int .u64 (d:Int),.int .i64 0,.bool false,.string { data:= #[] },.int .i64 0] (0,0) _ (by rfl) (heap_alloc_new _ _) Tryz.underlying187 rfl (by kernel_rfl)) rfl ?_
 exact ⟨rfl,(Below.refl _ _).alloc (Nat.le_refl _) _⟩
theorem refEnc46_any (d0 d1 d2 d3:Nat) (a:Option Addr) (n c:Nat) (p:ByteArray) (bs:List Nat) (hn:bs.length=n) (hd:d0<9223372036854775808∧d1<9223372036854775808∧d2<9223372036854775808∧d3<9223372036854775808) (hb:n≤100000) (hp:p.size≤100000) (T:List Nat) (hT:encE ⟨(d0:Int),(d1:Int),(d2:Int),(d3:Int),bs,p⟩=T) (w:World) (hB:BytesAt w a bs):Calls Tryz.prog 274 #[.agg #[.int .i64 (d0:Int),.int .i64 (d1:Int),.int .i64 (d2:Int),.int .i64 (d3:Int),.slice a n c,.string p]] w fun e w'=> ∃ad L cap,e= .returned (.slice ad L cap)∧T.length=L∧L≤cap∧BytesAt w' ad T∧(ad=none→cap=0)∧Below w.heap.size w w':=by
 have HD:=hid hd
 obtain ⟨sb,hsb⟩:=ex_eq (strB bs)
 have HCV:Hid (∀V,BytesAt V a bs→(convert 52 9 (.slice a n c)).run Tryz.prog V= .ok (.string sb) V):=hid (fun V h=>conv_l h hn c hsb)
 have HNB:Hid (nb sb=bs):=hid (by rw [← hsb];exact nb_strB hB.2.1)
 have HSZ:Hid (sb.size=n):=hid (by rw [← nb_length,HNB.o,hn])
 have HTT:Hid ([RV.uint d0,RV.uint d1,RV.uint d2,RV.uint d3,RV.bytes sb,RV.text p].flatMap RV.enc=T):=hid (by
  rw [← hT]
  show num d0++(num d1++(num d2++(num d3++((num sb.size++nb sb)++((num p.size++nb p)++[])))))=_
  rw [HNB.o,HSZ.o,← hn]
  unfold encE
  simp)
 have HTL:Hid (T.length≤1048576):=hid (by
  rw [← HTT.o]
  show (num d0++(num d1++(num d2++(num d3++((num sb.size++nb sb)++((num p.size++nb p)++[])))))).length≤_
  have h0:=num_len10 (n:=d0) (by omega)
  have h1:=num_len10 (n:=d1) (by omega)
  have h2:=num_len10 (n:=d2) (by omega)
  have h3:=num_len10 (n:=d3) (by omega)
  have h4:=num_len10 (n:=sb.size) (by rw [HSZ.o];omega)
  have h5:=num_len10 (n:=p.size) (by omega)
  simp only [List.length_append,List.length_nil,nb_length]
  have:=HSZ.o
  omega)
 have HOK:Hid (∀x ∈ [RV.uint d0,RV.uint d1,RV.uint d2,RV.uint d3,RV.bytes sb,RV.text p],x.ok):=hid (by
  have:=HSZ.o
  intro x hx
  simp only [List.mem_cons,List.not_mem_nil,or_false] at hx
  rcases hx with rfl | rfl | rfl | rfl | rfl | rfl<;> unfold RV.ok<;> simp only<;> omega)
 have HBY:=hid hB
 clear hsb hT hB hn hb hp hd
 go_enter Tryz.func274,Tryz.ntmps274
 go_upto_region 1 with fail
 refine wp_over (fun W=>Hid (W.heap[w.heap.size]? =some (.cells #[.int .i64 (d0:Int),.int .i64 (d1:Int),.int .i64 (d2:Int),.int .i64 (d3:Int),.slice a n c,.string p] 92 (0,0)))∧Hid (Below w.heap.size w W)∧Hid (W.heap.size=w.heap.size+1)) ⟨heap_alloc_new _ _,(Below.refl _ _).alloc (Nat.le_refl _) _,by show _=_;simp⟩ ?_
 rintro W ⟨HG,HB,HW⟩
 obtain ⟨N,hN⟩:=ex_eq w.heap.size
 rw [hN] at HG HB HW ⊢
 have HN:=hid hN
 clear hN
 have HST:Hid (∀V V',Below (N+1) W V→Below V.heap.size V V'→Below (N+1) W V'):=hid (fun V V' h h'=>h.trans (h'.mono (by have:=h.size;have:=HW.o;omega)))
 have HBE:Hid (∀V,Below (N+1) W V→Below w.heap.size w V):=hid (fun V h=>by rw [HN.o];exact HB.o.trans (h.mono (Nat.le_succ N)))
 have HSS:Hid (∀V,Below (N+1) W V→(V.cell? ⟨N,0,none⟩=some (.int .i64 (d0:Int))∧V.cell? ⟨N,1,none⟩=some (.int .i64 (d1:Int))∧V.cell? ⟨N,2,none⟩=some (.int .i64 (d2:Int))∧V.cell? ⟨N,3,none⟩=some (.int .i64 (d3:Int))∧V.cell? ⟨N,4,none⟩=some (.slice a n c)∧V.cell? ⟨N,5,none⟩=some (.string p)∧(convert 52 9 (.slice a n c)).run Tryz.prog V= .ok (.string sb) V)):=hid (fun V h=>by
  obtain ⟨c0,c1,c2,c3,c4,c5⟩:=row6 ((h.block N (Nat.lt_succ_self _)).trans HG.o)
  exact ⟨c0,c1,c2,c3,c4,c5,HCV.o V (HBY.o.later (HBE.o V h))⟩)
 have H2:Hid (Below (N+1) W W.drew):=hid (Below.refl _ _).drew
 refine Kit.wp_region_gplan (fun V=>V.cell? ⟨N,0,none⟩=some (.int .i64 (d0:Int))∧V.cell? ⟨N,1,none⟩=some (.int .i64 (d1:Int))∧V.cell? ⟨N,2,none⟩=some (.int .i64 (d2:Int))∧V.cell? ⟨N,3,none⟩=some (.int .i64 (d3:Int))∧V.cell? ⟨N,4,none⟩=some (.slice a n c)∧V.cell? ⟨N,5,none⟩=some (.string p)∧(convert 52 9 (.slice a n c)).run Tryz.prog V= .ok (.string sb) V) [(true,0),(true,1),(true,3),(true,4),(true,6),(true,7),(true,9),(true,10),(true,12),(true,13),(true,14),(true,15),(true,16),(true,17),(true,18),(false,2),(false,5),(false,8),(false,11),(false,19),(false,20),(true,21),(true,22),(true,23),(true,24),(true,25)] (by kernel_rfl) (by kernel_rfl) (by kernel_rfl) (by kernel_rfl) (HSS.o _ H2.o) ?_
 iterate 15 (refine Kit.ghd (h:= ?_))
 refine Kit.gplan_op (by rfl) (by rfl) fun K hK=> ?_
 go_simp
 go_at_call 226
 with_reducible refine (refNum46_any d0 HD.o.1 _).mono ?_
 rintro e w3 ⟨rfl,h3⟩
 have H3:Hid (Below (N+1) W w3):=hid (HST.o _ _ H2.o h3)
 clear h3
 refine hK _ _ (HSS.o _ H3.o) ?_
 clear hK K
 refine Kit.gplan_op (by rfl) (by rfl) fun K hK=> ?_
 go_simp
 go_at_call 226
 with_reducible refine (refNum46_any d1 HD.o.2.1 _).mono ?_
 rintro e w4 ⟨rfl,h4⟩
 have H4:Hid (Below (N+1) W w4):=hid (HST.o _ _ H3.o h4)
 clear h4
 refine hK _ _ (HSS.o _ H4.o) ?_
 clear hK K
 refine Kit.gplan_op (by rfl) (by rfl) fun K hK=> ?_
 go_simp
 go_at_call 226
 with_reducible refine (refNum46_any d2 HD.o.2.2.1 _).mono ?_
 rintro e w5 ⟨rfl,h5⟩
 have H5:Hid (Below (N+1) W w5):=hid (HST.o _ _ H4.o h5)
 clear h5
 refine hK _ _ (HSS.o _ H5.o) ?_
 clear hK K
 refine Kit.gplan_op (by rfl) (by rfl) fun K hK=> ?_
 go_simp
 go_at_call 226
 with_reducible refine (refNum46_any d3 HD.o.2.2.2 _).mono ?_
 rintro e w6 ⟨rfl,h6⟩
 have H6:Hid (Below (N+1) W w6):=hid (HST.o _ _ H5.o h6)
 clear h6
 refine hK _ _ (HSS.o _ H6.o) ?_
 clear hK K
 refine Kit.gplan_op (by rfl) (by rfl) fun K hK=> ?_
 go_simp
 have HN6:Hid (N+1≤w6.heap.size):=hid (by have:=H6.o.size;have:=HW.o;omega)
 refine hK _ _ (HSS.o _ (H6.o.alloc HN6.o _)) ?_
 clear hK K
 refine Kit.gplan_op (by rfl) (by rfl) fun K hK=> ?_
 go_simp
 go_at_call 127
 with_reducible refine (refEncode_any (some ⟨w6.heap.size,0,none⟩) 6 6 [RV.uint d0,RV.uint d1,RV.uint d2,RV.uint d3,RV.bytes sb,RV.text p] rfl (by decide) HOK.o T HTT.o HTL.o _ (vs_of_row (heap_alloc_new _ _) (by with_unfolding_all rfl))).mono ?_
 rintro e w8 ⟨ad,L,cap,rfl,hl,hc,hb,hnil,h8⟩
 have HL:=hid hl
 have HC:=hid hc
 have HB8:=hid hb
 have HNI:=hid hnil
 have H8:Hid (Below (N+1) W w8):=hid (HST.o _ _ (H6.o.alloc HN6.o _) h8)
 clear hl hc hb hnil h8
 refine hK _ _ (HSS.o _ H8.o) ?_
 clear hK K
 iterate 5 (refine Kit.ghd (h:= ?_))
 refine Kit.gdn (h:=?_)
 go_wp2_with fail
 go_ret
 exact ⟨ad,L,cap,rfl,HL.o,HC.o,HB8.o,HNI.o,HBE.o _ H8.o⟩
theorem refSum46_any (d0 d1 d2 d3:Nat) (a:Option Addr) (n c:Nat) (p:ByteArray) (bs:List Nat) (hn:bs.length=n) (hd:d0<9223372036854775808∧d1<9223372036854775808∧d2<9223372036854775808∧d3<9223372036854775808) (hb:n≤100000) (hp:p.size≤100000) (T:List Nat) (hT:sumE ⟨(d0:Int),(d1:Int),(d2:Int),(d3:Int),bs,p⟩=T) (w:World) (hB:BytesAt w a bs):Calls Tryz.prog 232 #[.agg #[.int .i64 (d0:Int),.int .i64 (d1:Int),.int .i64 (d2:Int),.int .i64 (d3:Int),.slice a n c,.string p]] w fun e w'=> ∃u:ByteArray,e= .returned (.string u)∧nb u=T∧Below w.heap.size w w':=by
 have HEN:=hid (fun w hB=>refEnc46_any d0 d1 d2 d3 a n c p bs hn hd hb hp (encE ⟨(d0:Int),(d1:Int),(d2:Int),(d3:Int),bs,p⟩) rfl w hB)
 have HTT:Hid (Sha.sum (encE ⟨(d0:Int),(d1:Int),(d2:Int),(d3:Int),bs,p⟩)=T):=hid hT
 have HEL:Hid ((encE ⟨(d0:Int),(d1:Int),(d2:Int),(d3:Int),bs,p⟩).length≤1048576):=hid (by
  show (num d0++num d1++num d2++num d3++(num bs.length++bs)++(num p.size++nb p)).length≤_
  have h0:=num_len10 (n:=d0) (by omega)
  have h1:=num_len10 (n:=d1) (by omega)
  have h2:=num_len10 (n:=d2) (by omega)
  have h3:=num_len10 (n:=d3) (by omega)
  have h4:=num_len10 (n:=bs.length) (by omega)
  have h5:=num_len10 (n:=p.size) (by omega)
  simp only [List.length_append,nb_length]
  omega)
 obtain ⟨E,hE⟩:=ex_eq (encE ⟨(d0:Int),(d1:Int),(d2:Int),(d3:Int),bs,p⟩)
 rw [hE] at HEN HTT HEL
 have HBY:=hid hB
 clear hT hB hn hb hp hd hE
 go_enter Tryz.func232,Tryz.ntmps232
 go_upto_region 1 with fail
 refine wp_over (fun W=>Hid (W.heap[w.heap.size]? =some (.cells #[.int .i64 (d0:Int),.int .i64 (d1:Int),.int .i64 (d2:Int),.int .i64 (d3:Int),.slice a n c,.string p] 92 (0,0)))∧Hid (Below w.heap.size w W)∧Hid (W.heap.size=w.heap.size+1)) ⟨heap_alloc_new _ _,(Below.refl _ _).alloc (Nat.le_refl _) _,by show _=_;simp⟩ ?_
 rintro W ⟨HG,HB,HW⟩
 obtain ⟨N,hN⟩:=ex_eq w.heap.size
 rw [hN] at HG HB HW ⊢
 have HN:=hid hN
 clear hN
 obtain ⟨c0,c1,c2,c3,c4,c5⟩:=row6 HG.o
 go_wp2_with (first
  | (go_at_call 274
     (with_reducible refine (HEN.o _ (HBY.o.later (by rw [HN.o];exact HB.o))).mono ?_)
     rintro e w3 ⟨ad,L,cap,rfl,hl,hc,hb,hnil,h3⟩
     have HL:=hid hl
     have HB3:=hid hb
     have HNI:=hid hnil
     have H3:Hid (Below N w w3):=hid (HB.o.trans (h3.mono (by have:=HW.o;omega)))
     clear hl hc hb hnil h3)
  | (go_at_call 190
     (with_reducible refine (refSum_l ad cap E L HL.o HNI.o (by have:=HL.o;have:=HEL.o;omega) _ HB3.o).mono ?_)
     rintro e w4 ⟨u,rfl,hu,h4⟩
     have HU:Hid (nb u=T):=hid (by rw [hu,HTT.o])
     have H4:Hid (Below N w w4):=hid (H3.o.trans (h4.mono (by have:=H3.o.size;have:=HN.o;omega)))
     clear hu h4))
 go_ret
 exact ⟨u,rfl,HU.o,by rw [HN.o];exact H4.o⟩
end Go.Proofs.YtndlihclgdkpaaaGreatDoor
