/- The law's play, walked. -/
import Derived.Test.YtndlihclgdkpaaaGreatDoorGg
import Derived.Test.YtndlihclgdkpaaaGreatDoorWpm
set_option linter.unusedVariables false
set_option linter.unusedSimpArgs false
open Go.Lib (hid)
set_option maxHeartbeats 4000000
set_option maxRecDepth 100000
namespace Go.Proofs.YtndlihclgdkpaaaGreatDoor
open Go.RowKit
open Kit (Chg)
open Sha (v)
open Go.Proofs.YtndlihclgdkpaaaGreatDoor.One

section
variable {w w1 w2:World} {G:Nat→Nat} {N P b t:Nat} {pks sds:List ByteArray} {gs ps:List Nat} {lss:Nat→List Lin} {nx:Nat→Nat} {vp vs vt:Value}
theorem PlayO.before (hb:Below w.heap.size w w1) (h:PlayO w1 w2 G N P b t pks sds gs ps lss nx vp vs vt):PlayO w w2 G N P b t pks sds gs ps lss nx vp vs vt:=by
 obtain ⟨G',lss',nx',h1,h2,h3⟩:=h
 exact ⟨G',lss',nx',h1,(Step.of_below hb G _).trans h2,h3⟩
theorem PlayO.later (h:PlayO w w1 G N P b t pks sds gs ps lss nx vp vs vt) (hb:Below w1.heap.size w1 w2):PlayO w w2 G N P b t pks sds gs ps lss nx vp vs vt:=by
 obtain ⟨G',lss',nx',h1,h2,h3⟩:=h
 exact ⟨G',lss',nx',h1.later hb,h2.later hb,h3⟩
theorem PlayO.cell (h:PlayO w w1 G N P b t pks sds gs ps lss nx vp vs vt) {k j:Nat} {x:Value} (hc:w.cell? ⟨k,j,none⟩=some x) (h0:G k<7):w1.cell? ⟨k,j,none⟩=some x:=by
 obtain ⟨G',lss',nx',h1,h2,h3⟩:=h
 exact h2.chg.cell hc (fun hm=>by omega)
theorem PlayO.keep (h:PlayO w w1 G N P b t pks sds gs ps lss nx vp vs vt) {k:Nat} (hk:k<w.heap.size) (h0:G k<7):w1.heap[k]? =w.heap[k]? :=by
 obtain ⟨G',lss',nx',h1,h2,h3⟩:=h
 exact h2.chg.other k hk (fun i hm=>by omega)
theorem WI.fresh6 (h:WI w G N P b t pks sds gs ps lss nx vp vs vt) (hb:Below w.heap.size w w1) (hz:w1.heap.size=w.heap.size+1):WI w1 (putTag G w.heap.size 6) N P b t pks sds gs ps lss nx vp vs vt∧Step G (putTag G w.heap.size 6) (fun _=>False) w w1:=by
 have hs:Step G (putTag G w.heap.size 6) (fun _=>False) w w1:=⟨Chg.of_below hb,fun k hk=>putTag_ne (by omega)⟩
 refine ⟨h.six hs (fun _ e=>e.elim) ⟨fun k hk=> ?_,fun k hk=> ?_,Nat.le_trans h.wd.own.size hb.size⟩ (fun q=> ?_),hs⟩
 ·rw [putTag_ne (by have:=h.wd.own.size;omega)]
  exact h.wd.own.lo k hk
 ·rw [putTag_ne (by omega)]
  exact h.wd.own.hi k (by omega)
 ·unfold putTag
  split
  ·decide
  ·exact h.wd.lim q
theorem PlayO.own6 {w3 w4:World} {X:Nat} (hw:PlayO w1 w3 (putTag G X 6) N P b t pks sds gs ps lss nx vp vs vt) (h1:Step G (putTag G X 6) (fun _=>False) w w1) (hX:w.heap.size≤X) (hX4:X<w1.heap.size) (hc:Chg (fun k _=>k=X) w3 w4):PlayO w w4 G N P b t pks sds gs ps lss nx vp vs vt:=by
 obtain ⟨G',lss',nx',k1,k2,k3⟩:=hw
 have ht:G' X=6:=(k2.tag X hX4).trans (putTag_same _ _ _)
 have hs:Step G G' (fun q=>7≤q) w w3:=(h1.mono (fun _ h=>h.elim)).trans k2
 exact ⟨G',lss',nx',k1.six (T:=fun q=>q=6) ⟨hc.mono (fun q i _ e=>by rw [e];exact ht),fun _ _=>rfl⟩ (fun _ e=>e) (k1.wd.own.later hc.size) k1.wd.lim,⟨((hs.chg.mono (fun q i _ h=>Or.inl h)).trans (hc.mono (fun q i _ h=>Or.inr h))).mono (fun q i hq h=>h.resolve_right (by omega)),hs.tag⟩,k3⟩
end
theorem row9 {w:World} {g:Nat} {x0 x1 x2 x3 x4 x5 x6 x7 x8:Value} {T:TypeId} (h:w.heap[g]? =some (.cells #[x0,x1,x2,x3,x4,x5,x6,x7,x8] T (0,0))):w.cell? ⟨g,0,none⟩=some x0∧w.cell? ⟨g,1,none⟩=some x1∧w.cell? ⟨g,2,none⟩=some x2∧w.cell? ⟨g,3,none⟩=some x3∧w.cell? ⟨g,4,none⟩=some x4∧w.cell? ⟨g,5,none⟩=some x5∧w.cell? ⟨g,6,none⟩=some x6∧w.cell? ⟨g,7,none⟩=some x7∧w.cell? ⟨g,8,none⟩=some x8:=
 ⟨cr h,cr h,cr h,cr h,cr h,cr h,cr h,cr h,cr h⟩
theorem play_append {G:Nat→Nat} {N P b t:Nat} {pks sds:List ByteArray} {gs ps:List Nat} {lss:Nat→List Lin} {nx:Nat→Nat} {vp vs vt:Value} (w:World) (h:WI w G N P b t pks sds gs ps lss nx vp vs vt) (hB4:b≤4) (i0 i1 d:Nat) (hi0:i0<3) (hi1:i1<3) (hd:d<3) (kd dy:Int) (a:Option Addr) (n c:Nat) (bs:List Nat) (hn:bs.length=n) (hn2:n≤69632) (hB:BytesAt w a bs) (d1 d2:Int):Calls Tryz.prog 56 #[.pointer (some ⟨P,0,none⟩),.agg #[.int .i64 0,.int .i64 (i0:Int),.int .i64 (i1:Int),.int .i64 (d:Int),.int .i64 kd,.int .i64 dy,.slice a n c,.int .i64 d1,.int .i64 d2]] w fun e w'=> ∃(m er:Int),e= .returned (.tuple #[.int .i64 m,.int .i64 er])∧PlayO w w' G N P b t pks sds gs ps lss nx vp vs vt:=by
 obtain ⟨hz1,at_,ct,rfl,hz2,hz3,hpt⟩:=ptrs_of_own h.wd.sto
 obtain ⟨bt,rfl,hz4⟩:=hpt 0 (by rw [h.wd.tlen];decide)
 clear hpt hz1 hz2 hz3 hz4
 have HW:=hid h
 have HBY:=hid hB
 have HNL:=hid hn
 have HD:Hid (i0<3∧i1<3∧d<3∧n≤69632∧b≤4):=hid ⟨hi0,hi1,hd,hn2,hB4⟩
 have hk0:(i0:Int)<3:=by omega
 have hk1:(i1:Int)<3:=by omega
 have hk2:(d:Int)<3:=by omega
 clear h hB hn hi0 hi1 hd hn2 hB4
 go_enter Tryz.func56,Tryz.ntmps56
 go_upto_region 1 with fail
 refine wp_over (fun V=>Hid (V.heap[w.heap.size]? =some (.cells #[.int .i64 0,.int .i64 (i0:Int),.int .i64 (i1:Int),.int .i64 (d:Int),.int .i64 kd,.int .i64 dy,.slice a n c,.int .i64 d1,.int .i64 d2] 101 (0,0)))∧Hid (Below w.heap.size w V)∧Hid (V.heap.size=w.heap.size+1)) ⟨heap_alloc_new _ _,(Below.refl _ _).alloc (Nat.le_refl _) _,by show _=_;simp⟩ ?_
 rintro W1 ⟨HX1,HB1,HZ1⟩
 obtain ⟨N0,hN0⟩:=ex_eq w.heap.size
 have HN0:=hid hN0
 have HW1:Hid (WI W1 G N P b t pks sds gs ps lss nx vp vs (.slice (some ⟨bt,0,none⟩) 3 ct)):=hid (HW.o.later HB1.o)
 have HPRE:Hid (∀V,PlayO W1 V G N P b t pks sds gs ps lss nx vp vs (.slice (some ⟨bt,0,none⟩) 3 ct)→PlayO w V G N P b t pks sds gs ps lss nx vp vs (.slice (some ⟨bt,0,none⟩) 3 ct)):=hid (fun V hV=>hV.before HB1.o)
 have HBY1:Hid (BytesAt W1 a bs):=hid (HBY.o.later HB1.o)
 rw [hN0] at HX1 HB1 HZ1 ⊢
 clear hN0 HBY
 have HOP:Hid (∀V,Below W1.heap.size W1 V→V.cell? ⟨N0,0,none⟩=some (.int .i64 0)∧V.cell? ⟨N0,1,none⟩=some (.int .i64 (i0:Int))∧V.cell? ⟨N0,2,none⟩=some (.int .i64 (i1:Int))∧V.cell? ⟨N0,3,none⟩=some (.int .i64 (d:Int))∧V.cell? ⟨N0,4,none⟩=some (.int .i64 kd)∧V.cell? ⟨N0,5,none⟩=some (.int .i64 dy)∧V.cell? ⟨N0,6,none⟩=some (.slice a n c)∧V.cell? ⟨N0,7,none⟩=some (.int .i64 d1)∧V.cell? ⟨N0,8,none⟩=some (.int .i64 d2)):=hid (fun V h=>row9 ((h.block N0 (by rw [HZ1.o];omega)).trans HX1.o))
 have HWC:Hid (∀V,Below W1.heap.size W1 V→(V.cell? ⟨P,3,none⟩=some vs∧V.cell? ⟨P,4,none⟩=some (.slice (some ⟨bt,0,none⟩) 3 ct))∧ ∀i,i<3→V.cell? ⟨bt,i,none⟩=some (.pointer (some ⟨ps.getD i 0,0,none⟩))):=hid (fun V h=>by
  have h1:=HW1.o.later h
  obtain ⟨_,_,_,c3,c4,_⟩:=world_cells h1.wd.row
  refine ⟨⟨c3,c4⟩,fun i hi=> ?_⟩
  obtain ⟨_,a',c',he,_,_,hpt⟩:=ptrs_of_own h1.wd.sto
  obtain ⟨b',hb',hc⟩:=hpt i (by rw [h1.wd.tlen];exact hi)
  injection he with e1 e2 e3
  rw [← e1] at hb'
  injection hb' with hb'
  injection hb' with hb'
  rw [hb']
  exact hc)
 obtain ⟨p0,hp0⟩:=ex_eq (ps.getD i0 0)
 have HP0:=hid hp0
 clear hp0
 have HBD:Hid (Below W1.heap.size W1 W1.drew):=hid (Below.refl _ W1).drew
 obtain ⟨WD,hWD⟩:=ex_eq W1.drew
 rw [hWD] at HBD
 refine Kit.wp_region_gplan (fun V=>(V.cell? ⟨P,4,none⟩=some (.slice (some ⟨bt,0,none⟩) 3 ct)∧V.cell? ⟨bt,i0,none⟩=some (.pointer (some ⟨p0,0,none⟩)))∧V.cell? ⟨N0,1,none⟩=some (.int .i64 (i0:Int))) [(true,0),(true,1),(true,2),(true,3),(true,4),(true,5),(true,6),(true,7),(true,8)] (by kernel_rfl) (by kernel_rfl) (by kernel_rfl) (by kernel_rfl) (by rw [hWD];exact ⟨⟨(HWC.o _ HBD.o).1.2,by rw [← HP0.o];exact (HWC.o _ HBD.o).2 i0 HD.o.1⟩,(HOP.o _ HBD.o).2.1⟩) ?_
 rw [hWD]
 clear hWD
 iterate 9 (refine Kit.ghd (h:= ?_))
 refine Kit.gdn (h:=?_)
 obtain ⟨x0,x1,x2,x3,x4,x5,x6,x7,x8⟩:=HOP.o _ HBD.o
 have HAP:=hid ((HW1.o.later HBD.o).append i0 d HD.o.1 HD.o.2.2.1 kd dy a n c bs HNL.o HD.o.2.2.2.1 (HBY1.o.later HBD.o))
 rw [HP0.o] at HAP
 go_upto_region 5 with (first
  | (go_at_call 139
     (with_reducible refine HAP.o.mono ?_)
     rintro e w3 ⟨x,er,rfl,ho⟩
     have HO:Hid (PlayO w w3 G N P b t pks sds gs ps lss nx vp vs (.slice (some ⟨bt,0,none⟩) 3 ct)):=hid (HPRE.o _ (ho.before HBD.o))
     clear ho x0 x1 x2 x3 x4 x5 x6 x7 x8))
 refine wp_over (fun V=>Hid (V.heap[w3.heap.size]? =some (.cells #[.int .i64 x.e.dev,.int .i64 x.e.seq,.int .i64 x.e.kind,.int .i64 x.e.day,.slice x.a x.e.body.length x.c,.string x.e.prev] 92 (0,0)))∧Hid (Below w3.heap.size w3 V)) ⟨heap_alloc_new _ _,(Below.refl _ _).alloc (Nat.le_refl _) _⟩ ?_
 rintro W4 ⟨HX4,HB4⟩
 obtain ⟨r0,r1,r2,r3,r4,r5⟩:=row6 HX4.o
 go_wp2_with fail
 go_ret2
 exact ⟨_,_,rfl,HO.o.later HB4.o⟩
theorem play_seal {G:Nat→Nat} {N P b t:Nat} {pks sds:List ByteArray} {gs ps:List Nat} {lss:Nat→List Lin} {nx:Nat→Nat} {vp vs vt:Value} (w:World) (h:WI w G N P b t pks sds gs ps lss nx vp vs vt) (hB4:b≤4) (i0 i1 d:Nat) (hi0:i0<3) (hi1:i1<3) (hd:d<3) (kd dy:Int) (a:Option Addr) (n c:Nat) (bs:List Nat) (hn:bs.length=n) (hn2:n≤69632) (hB:BytesAt w a bs) (d1 d2:Int):Calls Tryz.prog 56 #[.pointer (some ⟨P,0,none⟩),.agg #[.int .i64 1,.int .i64 (i0:Int),.int .i64 (i1:Int),.int .i64 (d:Int),.int .i64 kd,.int .i64 dy,.slice a n c,.int .i64 d1,.int .i64 d2]] w fun e w'=> ∃(m er:Int),e= .returned (.tuple #[.int .i64 m,.int .i64 er])∧PlayO w w' G N P b t pks sds gs ps lss nx vp vs vt:=by
 obtain ⟨hz1,at_,ct,rfl,hz2,hz3,hpt⟩:=ptrs_of_own h.wd.sto
 obtain ⟨bt,rfl,hz4⟩:=hpt 0 (by rw [h.wd.tlen];decide)
 clear hpt hz1 hz2 hz3 hz4
 obtain ⟨hz1,ag,cg,rfl,hz2,hz3,hpt⟩:=ptrs_of_own h.wd.sig
 obtain ⟨bg,rfl,hz4⟩:=hpt 0 (by rw [h.wd.glen];decide)
 clear hpt hz1 hz2 hz3 hz4
 have HG3:Hid (G P=0∧G bg=0∧G w.heap.size=0):=hid ⟨h.wd.rtag,h.wd.stag bg rfl,h.wd.own.hi _ (Nat.le_refl _)⟩
 have HW:=hid h
 have HBY:=hid hB
 have HNL:=hid hn
 have HD:Hid (i0<3∧i1<3∧d<3∧n≤69632∧b≤4):=hid ⟨hi0,hi1,hd,hn2,hB4⟩
 have hk0:(i0:Int)<3:=by omega
 have hk1:(i1:Int)<3:=by omega
 have hk2:(d:Int)<3:=by omega
 clear h hB hn hi0 hi1 hd hn2 hB4
 go_enter Tryz.func56,Tryz.ntmps56
 go_upto_region 1 with fail
 refine wp_over (fun V=>Hid (V.heap[w.heap.size]? =some (.cells #[.int .i64 1,.int .i64 (i0:Int),.int .i64 (i1:Int),.int .i64 (d:Int),.int .i64 kd,.int .i64 dy,.slice a n c,.int .i64 d1,.int .i64 d2] 101 (0,0)))∧Hid (Below w.heap.size w V)∧Hid (V.heap.size=w.heap.size+1)) ⟨heap_alloc_new _ _,(Below.refl _ _).alloc (Nat.le_refl _) _,by show _=_;simp⟩ ?_
 rintro W1 ⟨HX1,HB1,HZ1⟩
 obtain ⟨N0,hN0⟩:=ex_eq w.heap.size
 have HN0:=hid hN0
 have HW1:Hid (WI W1 G N P b t pks sds gs ps lss nx vp (.slice (some ⟨bg,0,none⟩) 3 cg) (.slice (some ⟨bt,0,none⟩) 3 ct)):=hid (HW.o.later HB1.o)
 have HPRE:Hid (∀V,PlayO W1 V G N P b t pks sds gs ps lss nx vp (.slice (some ⟨bg,0,none⟩) 3 cg) (.slice (some ⟨bt,0,none⟩) 3 ct)→PlayO w V G N P b t pks sds gs ps lss nx vp (.slice (some ⟨bg,0,none⟩) 3 cg) (.slice (some ⟨bt,0,none⟩) 3 ct)):=hid (fun V hV=>hV.before HB1.o)
 have HBY1:Hid (BytesAt W1 a bs):=hid (HBY.o.later HB1.o)
 rw [hN0] at HX1 HB1 HZ1 HG3 ⊢
 clear hN0 HBY
 have HOP:Hid (∀V,Below W1.heap.size W1 V→V.cell? ⟨N0,0,none⟩=some (.int .i64 1)∧V.cell? ⟨N0,1,none⟩=some (.int .i64 (i0:Int))∧V.cell? ⟨N0,2,none⟩=some (.int .i64 (i1:Int))∧V.cell? ⟨N0,3,none⟩=some (.int .i64 (d:Int))∧V.cell? ⟨N0,4,none⟩=some (.int .i64 kd)∧V.cell? ⟨N0,5,none⟩=some (.int .i64 dy)∧V.cell? ⟨N0,6,none⟩=some (.slice a n c)∧V.cell? ⟨N0,7,none⟩=some (.int .i64 d1)∧V.cell? ⟨N0,8,none⟩=some (.int .i64 d2)):=hid (fun V h=>row9 ((h.block N0 (by rw [HZ1.o];omega)).trans HX1.o))
 have HWC:Hid (∀V,Below W1.heap.size W1 V→(V.cell? ⟨P,3,none⟩=some (.slice (some ⟨bg,0,none⟩) 3 cg)∧V.cell? ⟨P,4,none⟩=some (.slice (some ⟨bt,0,none⟩) 3 ct))∧(∀i,i<3→V.cell? ⟨bt,i,none⟩=some (.pointer (some ⟨ps.getD i 0,0,none⟩)))∧ ∀i,i<3→V.cell? ⟨bg,i,none⟩=some (.pointer (some ⟨gs.getD i 0,0,none⟩))):=hid (fun V h=>by
  have h1:=HW1.o.later h
  obtain ⟨_,_,_,c3,c4,_⟩:=world_cells h1.wd.row
  refine ⟨⟨c3,c4⟩,fun i hi=> ?_,fun i hi=> ?_⟩
  rotate_left
  ·obtain ⟨_,a',c',he,_,_,hpt⟩:=ptrs_of_own h1.wd.sig
   obtain ⟨b',hb',hc⟩:=hpt i (by rw [h1.wd.glen];exact hi)
   injection he with e1 e2 e3
   rw [← e1] at hb'
   injection hb' with hb'
   injection hb' with hb'
   rw [hb']
   exact hc
  obtain ⟨_,a',c',he,_,_,hpt⟩:=ptrs_of_own h1.wd.sto
  obtain ⟨b',hb',hc⟩:=hpt i (by rw [h1.wd.tlen];exact hi)
  injection he with e1 e2 e3
  rw [← e1] at hb'
  injection hb' with hb'
  injection hb' with hb'
  rw [hb']
  exact hc)
 obtain ⟨p0,hp0⟩:=ex_eq (ps.getD i0 0)
 have HP0:=hid hp0
 clear hp0
 have HBD:Hid (Below W1.heap.size W1 W1.drew):=hid (Below.refl _ W1).drew
 obtain ⟨WD,hWD⟩:=ex_eq W1.drew
 rw [hWD] at HBD
 refine Kit.wp_region_gplan (fun V=>(V.cell? ⟨P,4,none⟩=some (.slice (some ⟨bt,0,none⟩) 3 ct)∧V.cell? ⟨bt,i0,none⟩=some (.pointer (some ⟨p0,0,none⟩)))∧V.cell? ⟨N0,1,none⟩=some (.int .i64 (i0:Int))) [(true,0),(true,1),(true,2),(true,3),(true,4),(true,5),(true,6),(true,7),(true,8)] (by kernel_rfl) (by kernel_rfl) (by kernel_rfl) (by kernel_rfl) (by rw [hWD];exact ⟨⟨(HWC.o _ HBD.o).1.2,by rw [← HP0.o];exact (HWC.o _ HBD.o).2.1 i0 HD.o.1⟩,(HOP.o _ HBD.o).2.1⟩) ?_
 rw [hWD]
 clear hWD
 iterate 9 (refine Kit.ghd (h:= ?_))
 refine Kit.gdn (h:=?_)
 obtain ⟨x0,x1,x2,x3,x4,x5,x6,x7,x8⟩:=HOP.o _ HBD.o
 obtain ⟨g0,hg0⟩:=ex_eq (gs.getD d 0)
 have HGE:=hid hg0
 clear hg0
 have HSL:Hid (∀V,Below W1.heap.size W1 V→Calls Tryz.prog 140 #[.pointer (some ⟨p0,0,none⟩),.int .i64 (d:Int),.pointer (some ⟨g0,0,none⟩)] V fun e w'=> ∃(x:HV) (er:Int),e= .returned (.tuple #[.agg #[.int .i64 x.h.dev,.int .i64 x.h.seq,.string x.h.sum,.int .i64 x.h.idx,.slice x.a1 x.h.ps.length x.c1,.slice x.a2 x.h.qs.length x.c2],.int .i64 er])∧PlayO V w' G N P b t pks sds gs ps lss nx vp (.slice (some ⟨bg,0,none⟩) 3 cg) (.slice (some ⟨bt,0,none⟩) 3 ct)):=hid (fun V h=>by
  have h1:=(HW1.o.later h).sealing HD.o.2.2.2.2 i0 d HD.o.1 HD.o.2.2.1
  rw [HP0.o,HGE.o] at h1
  exact h1)
 have HSS:Hid (∀V,Below W1.heap.size W1 V→(V.cell? ⟨P,3,none⟩=some (.slice (some ⟨bg,0,none⟩) 3 cg)∧V.cell? ⟨bg,d,none⟩=some (.pointer (some ⟨g0,0,none⟩)))∧V.cell? ⟨N0,3,none⟩=some (.int .i64 (d:Int))):=hid (fun V h=>⟨⟨(HWC.o V h).1.1,by rw [← HGE.o];exact (HWC.o V h).2.2 d HD.o.2.2.1⟩,(HOP.o V h).2.2.2.1⟩)
 have HSK:Hid (∀V V',Below W1.heap.size W1 V→PlayO V V' G N P b t pks sds gs ps lss nx vp (.slice (some ⟨bg,0,none⟩) 3 cg) (.slice (some ⟨bt,0,none⟩) 3 ct)→(V'.cell? ⟨P,3,none⟩=some (.slice (some ⟨bg,0,none⟩) 3 cg)∧V'.cell? ⟨bg,d,none⟩=some (.pointer (some ⟨g0,0,none⟩)))∧V'.cell? ⟨N0,3,none⟩=some (.int .i64 (d:Int))):=hid (fun V V' h ho=>by
  obtain ⟨⟨c1,c2⟩,c3⟩:=HSS.o V h
  exact ⟨⟨ho.cell c1 (by have:=HG3.o.1;omega),ho.cell c2 (by have:=HG3.o.2.1;omega)⟩,ho.cell c3 (by have:=HG3.o.2.2;omega)⟩)
 have HSB:Hid (∀V V':World,Below V.heap.size V V'→((V.cell? ⟨P,3,none⟩=some (.slice (some ⟨bg,0,none⟩) 3 cg)∧V.cell? ⟨bg,d,none⟩=some (.pointer (some ⟨g0,0,none⟩)))∧V.cell? ⟨N0,3,none⟩=some (.int .i64 (d:Int)))→(V'.cell? ⟨P,3,none⟩=some (.slice (some ⟨bg,0,none⟩) 3 cg)∧V'.cell? ⟨bg,d,none⟩=some (.pointer (some ⟨g0,0,none⟩)))∧V'.cell? ⟨N0,3,none⟩=some (.int .i64 (d:Int))):=hid (fun V V' hb hc=>by
  have k: ∀{q j:Nat} {y:Value},V.cell? ⟨q,j,none⟩=some y→V'.cell? ⟨q,j,none⟩=some y:=fun h0=>(hb.cell (World.block_lt_of_cell? V _ h0)).trans h0
  exact ⟨⟨k hc.1.1,k hc.1.2⟩,k hc.2⟩)
 go_upto_region 7 with fail
 have HB2:Hid (Below W1.heap.size W1 WD.drew):=hid HBD.o.drew
 clear x0 x1 x2 x3 x4 x5 x6 x7 x8
 refine Kit.wp_region_tplan (fun V=>(V.cell? ⟨P,3,none⟩=some (.slice (some ⟨bg,0,none⟩) 3 cg)∧V.cell? ⟨bg,d,none⟩=some (.pointer (some ⟨g0,0,none⟩)))∧V.cell? ⟨N0,3,none⟩=some (.int .i64 (d:Int))) (.heads [0,1,2,3,4,5,6,7,8,9,10] (.op2 11 (.heads [12,13,14] (.op1 15 (.op1 16 (.head 17 .done)))) 15 (.op1 11 (.heads [12,13,14] (.op1 16 (.head 17 .done)))))) (by kernel_rfl) (by kernel_rfl) (by kernel_rfl) (by kernel_rfl) (HSS.o _ HB2.o) ?_
 obtain ⟨VD,hVD⟩:=ex_eq WD.drew
 rw [hVD] at HB2
 rw [hVD]
 clear hVD
 iterate 11 (refine Kit.thd (h:= ?_))
 refine Kit.tplan_op2 ?_ ?_
 focus (
  refine Kit.tplan_op1 (by rfl) (by rfl) fun K hK=> ?_
  go_simp
  go_at_call 140
  with_reducible refine (HSL.o _ HB2.o).mono ?_
  rintro e w3 ⟨x,er,rfl,ho⟩
  have HS3:=hid (HSK.o _ _ HB2.o ho)
  have HPO:Hid (PlayO w w3 G N P b t pks sds gs ps lss nx vp (.slice (some ⟨bg,0,none⟩) 3 cg) (.slice (some ⟨bt,0,none⟩) 3 ct)):=hid (HPRE.o _ (ho.before HB2.o))
  clear ho
  refine hK _ _ HS3.o ?_
  clear hK K
  iterate 3 (refine Kit.thd (h:= ?_))
  refine Kit.tplan_op1 (by rfl) (by rfl) fun K hK=> ?_
  go_simp
  obtain ⟨W4,hW4⟩:=ex_eq (w3.alloc (.cells #[.int .i64 0,.int .i64 0,.string ⟨#[]⟩,.int .i64 0,.slice none 0 0,.slice none 0 0] 94))
  have HX4:Hid (W4.heap[w3.heap.size]? =some (.cells #[.int .i64 0,.int .i64 0,.string ⟨#[]⟩,.int .i64 0,.slice none 0 0,.slice none 0 0] 94 (0,0))):=hid (by rw [← hW4];exact heap_alloc_new _ _)
  have HB4:Hid (Below w3.heap.size w3 W4):=hid (by rw [← hW4];exact (Below.refl _ _).alloc (Nat.le_refl _) _)
  rw [hW4]
  obtain ⟨X,hX⟩:=ex_eq w3.heap.size
  have HXE:=hid hX
  rw [hX] at HX4 HB4 ⊢
  clear hW4 hX
  have HS4:=hid (HSB.o w3 W4 (by rw [HXE.o];exact HB4.o) HS3.o)
  refine hK _ _ HS4.o ?_
  clear hK K
  obtain ⟨r0,r1,r2,r3,r4,r5⟩:=row6 HX4.o
  have rf:=cells6 HX4.o
  refine Kit.tplan_op1 (by rfl) (by rfl) fun K hK=> ?_
  go_simp
  have HX5:=hid (put6_row6 (x0:= .int .i64 x.h.dev) (x1:= .int .i64 x.h.seq) (x2:= .string x.h.sum) (x3:= .int .i64 x.h.idx) (x4:= .slice x.a1 x.h.ps.length x.c1) (x5:= .slice x.a2 x.h.qs.length x.c2) HX4.o)
  have HB5:=hid (below6 (N:=X) (x0:= .int .i64 x.h.dev) (x1:= .int .i64 x.h.seq) (x2:= .string x.h.sum) (x3:= .int .i64 x.h.idx) (x4:= .slice x.a1 x.h.ps.length x.c1) (x5:= .slice x.a2 x.h.qs.length x.c2) HB4.o (Nat.le_refl _))
  obtain ⟨W5,hW5⟩:=ex_eq (((((((W4.setCell ⟨X,0,none⟩ (.int .i64 x.h.dev)).setCell ⟨X,1,none⟩ (.int .i64 x.h.seq)).setCell ⟨X,2,none⟩ (.string x.h.sum)).setCell ⟨X,3,none⟩ (.int .i64 x.h.idx)).setCell ⟨X,4,none⟩ (.slice x.a1 x.h.ps.length x.c1)).setCell ⟨X,5,none⟩ (.slice x.a2 x.h.qs.length x.c2)))
  rw [hW5] at HX5 HB5 ⊢
  clear hW5 r0 r1 r2 r3 r4 r5 rf
  refine hK _ _ (HSB.o w3 W5 (by rw [HXE.o];exact HB5.o) HS3.o) ?_
  clear hK K
  iterate 1 (refine Kit.thd (h:= ?_))
  refine Kit.tplan_done ?_
  (try simp only [Act.put,List.setIfInBounds_toArray,List.set_cons_zero,List.set_cons_succ])
  obtain ⟨r0,r1,r2,r3,r4,r5⟩:=row6 HX5.o
  go_wp2_with fail
  go_ret2
  exact ⟨_,_,rfl,HPO.o.later (by rw [HXE.o];exact HB5.o)⟩)
 focus (
  refine Kit.tplan_op1 (by rfl) (by rfl) fun K hK=> ?_
  go_simp
  obtain ⟨W4,hW4⟩:=ex_eq (VD.alloc (.cells #[.int .i64 0,.int .i64 0,.string ⟨#[]⟩,.int .i64 0,.slice none 0 0,.slice none 0 0] 94))
  have HX4:Hid (W4.heap[VD.heap.size]? =some (.cells #[.int .i64 0,.int .i64 0,.string ⟨#[]⟩,.int .i64 0,.slice none 0 0,.slice none 0 0] 94 (0,0))):=hid (by rw [← hW4];exact heap_alloc_new _ _)
  have HB4:Hid (Below VD.heap.size VD W4):=hid (by rw [← hW4];exact (Below.refl _ _).alloc (Nat.le_refl _) _)
  have HZ4:Hid (W4.heap.size=VD.heap.size+1):=hid (by rw [← hW4];exact World.size_alloc _ _)
  rw [hW4]
  obtain ⟨X,hX⟩:=ex_eq VD.heap.size
  have HXE:=hid hX
  rw [hX] at HX4 HB4 HZ4 ⊢
  clear hW4 hX
  have HBX:Hid (Below W1.heap.size W1 W4):=hid (HB2.o.trans (HB4.o.mono (by rw [← HXE.o];exact HB2.o.size)))
  refine hK _ _ (HSS.o _ HBX.o) ?_
  clear hK K
  refine Kit.tplan_op1 (by rfl) (by rfl) fun K hK=> ?_
  go_simp
  go_at_call 140
  have HWI:=hid ((HW1.o.later HB2.o).fresh6 (w1:=W4) (by rw [HXE.o];exact HB4.o) (by rw [HXE.o];exact HZ4.o))
  rw [HXE.o] at HWI
  have hsl:=HWI.o.1.sealing HD.o.2.2.2.2 i0 d HD.o.1 HD.o.2.2.1
  rw [HP0.o,HGE.o] at hsl
  with_reducible refine hsl.mono ?_
  rintro e w5 ⟨x,er,rfl,ho⟩
  have HXN:Hid (P<X∧bg<X∧N0<X∧X<W4.heap.size):=hid (by
   have h1:=HW1.o.wd.lt
   have h2:=(HW1.o.wd.sig.lt bg rfl).2
   have h3:=HZ1.o
   have h4:=HB2.o.size
   have h5:=HXE.o
   have h6:=HZ4.o
   omega)
  have HO5:=hid ho
  have HS5:Hid ((w5.cell? ⟨P,3,none⟩=some (.slice (some ⟨bg,0,none⟩) 3 cg)∧w5.cell? ⟨bg,d,none⟩=some (.pointer (some ⟨g0,0,none⟩)))∧w5.cell? ⟨N0,3,none⟩=some (.int .i64 (d:Int))):=hid (by
   obtain ⟨⟨c1,c2⟩,c3⟩:=HSS.o W4 HBX.o
   exact ⟨⟨ho.cell c1 (by rw [putTag_ne (by have:=HXN.o;omega)];have:=HG3.o;omega),ho.cell c2 (by rw [putTag_ne (by have:=HXN.o;omega)];have:=HG3.o;omega)⟩,ho.cell c3 (by rw [putTag_ne (by have:=HXN.o;omega)];have:=HG3.o;omega)⟩)
  have HX5:=hid ((ho.keep HXN.o.2.2.2 (by rw [putTag_same];decide)).trans HX4.o)
  clear ho hsl
  refine hK _ _ HS5.o ?_
  clear hK K
  iterate 3 (refine Kit.thd (h:= ?_))
  obtain ⟨r0,r1,r2,r3,r4,r5⟩:=row6 HX5.o
  have rf:=cells6 HX5.o
  refine Kit.tplan_op1 (by rfl) (by rfl) fun K hK=> ?_
  go_simp
  have HX6:=hid (put6_row6 (x0:= .int .i64 x.h.dev) (x1:= .int .i64 x.h.seq) (x2:= .string x.h.sum) (x3:= .int .i64 x.h.idx) (x4:= .slice x.a1 x.h.ps.length x.c1) (x5:= .slice x.a2 x.h.qs.length x.c2) HX5.o)
  have HC6:=hid (chg6 (M:=fun k _=>k=X) (N:=X) (x0:= .int .i64 x.h.dev) (x1:= .int .i64 x.h.seq) (x2:= .string x.h.sum) (x3:= .int .i64 x.h.idx) (x4:= .slice x.a1 x.h.ps.length x.c1) (x5:= .slice x.a2 x.h.qs.length x.c2) (Chg.refl (fun k _=>k=X) w5) (fun _=>rfl))
  obtain ⟨W6,hW6⟩:=ex_eq (((((((w5.setCell ⟨X,0,none⟩ (.int .i64 x.h.dev)).setCell ⟨X,1,none⟩ (.int .i64 x.h.seq)).setCell ⟨X,2,none⟩ (.string x.h.sum)).setCell ⟨X,3,none⟩ (.int .i64 x.h.idx)).setCell ⟨X,4,none⟩ (.slice x.a1 x.h.ps.length x.c1)).setCell ⟨X,5,none⟩ (.slice x.a2 x.h.qs.length x.c2)))
  rw [hW6] at HX6 HC6 ⊢
  clear hW6 r0 r1 r2 r3 r4 r5 rf
  have HPO:Hid (PlayO w W6 G N P b t pks sds gs ps lss nx vp (.slice (some ⟨bg,0,none⟩) 3 cg) (.slice (some ⟨bt,0,none⟩) 3 ct)):=hid (HPRE.o _ (PlayO.before HB2.o (HO5.o.own6 (w:=VD) HWI.o.2 (by rw [HXE.o];exact Nat.le_refl _) HXN.o.2.2.2 HC6.o)))
  refine hK _ _ ⟨⟨HC6.o.cell HS5.o.1.1 (fun e=>by have:=HXN.o;omega),HC6.o.cell HS5.o.1.2 (fun e=>by have:=HXN.o;omega)⟩,HC6.o.cell HS5.o.2 (fun e=>by have:=HXN.o;omega)⟩ ?_
  clear hK K
  iterate 1 (refine Kit.thd (h:= ?_))
  refine Kit.tplan_done ?_
  (try simp only [Act.put,List.setIfInBounds_toArray,List.set_cons_zero,List.set_cons_succ])
  obtain ⟨r0,r1,r2,r3,r4,r5⟩:=row6 HX6.o
  go_wp2_with fail
  go_ret2
  exact ⟨_,_,rfl,HPO.o⟩)
theorem play_send {G:Nat→Nat} {N P b t:Nat} {pks sds:List ByteArray} {gs ps:List Nat} {lss:Nat→List Lin} {nx:Nat→Nat} {vp vs vt:Value} (w:World) (h:WI w G N P b t pks sds gs ps lss nx vp vs vt) (hB4:b≤4) (kind:Int) (i0 i1 d:Nat) (hi0:i0<3) (hi1:i1<3) (hd:d<3) (kd dy:Int) (a:Option Addr) (n c:Nat) (bs:List Nat) (hn:bs.length=n) (hn2:n≤69632) (hB:BytesAt w a bs) (d1 d2:Int) (hne0:(kind==0)=false) (hne1:(kind==1)=false):Calls Tryz.prog 56 #[.pointer (some ⟨P,0,none⟩),.agg #[.int .i64 kind,.int .i64 (i0:Int),.int .i64 (i1:Int),.int .i64 (d:Int),.int .i64 kd,.int .i64 dy,.slice a n c,.int .i64 d1,.int .i64 d2]] w fun e w'=> ∃(m er:Int),e= .returned (.tuple #[.int .i64 m,.int .i64 er])∧PlayO w w' G N P b t pks sds gs ps lss nx vp vs vt:=by
 obtain ⟨hz1,at_,ct,rfl,hz2,hz3,hpt⟩:=ptrs_of_own h.wd.sto
 obtain ⟨bt,rfl,hz4⟩:=hpt 0 (by rw [h.wd.tlen];decide)
 clear hpt hz1 hz2 hz3 hz4
 have HG3:Hid (G P=0∧G bt=0∧G w.heap.size=0):=hid ⟨h.wd.rtag,h.wd.ttag bt rfl,h.wd.own.hi _ (Nat.le_refl _)⟩
 have HGH:Hid (∀q,w.heap.size≤q→G q=0):=hid h.wd.own.hi
 have HW:=hid h
 have HBY:=hid hB
 have HNL:=hid hn
 have HD:Hid (i0<3∧i1<3∧d<3∧n≤69632∧b≤4):=hid ⟨hi0,hi1,hd,hn2,hB4⟩
 have hk0:(i0:Int)<3:=by omega
 have hk1:(i1:Int)<3:=by omega
 have hk2:(d:Int)<3:=by omega
 clear h hB hn hi0 hi1 hd hn2 hB4
 go_enter Tryz.func56,Tryz.ntmps56
 go_upto_region 1 with fail
 refine wp_over (fun V=>Hid (V.heap[w.heap.size]? =some (.cells #[.int .i64 kind,.int .i64 (i0:Int),.int .i64 (i1:Int),.int .i64 (d:Int),.int .i64 kd,.int .i64 dy,.slice a n c,.int .i64 d1,.int .i64 d2] 101 (0,0)))∧Hid (Below w.heap.size w V)∧Hid (V.heap.size=w.heap.size+1)) ⟨heap_alloc_new _ _,(Below.refl _ _).alloc (Nat.le_refl _) _,by show _=_;simp⟩ ?_
 rintro W1 ⟨HX1,HB1,HZ1⟩
 obtain ⟨N0,hN0⟩:=ex_eq w.heap.size
 have HN0:=hid hN0
 have HW1:Hid (WI W1 G N P b t pks sds gs ps lss nx vp vs (.slice (some ⟨bt,0,none⟩) 3 ct)):=hid (HW.o.later HB1.o)
 have HPRE:Hid (∀V,PlayO W1 V G N P b t pks sds gs ps lss nx vp vs (.slice (some ⟨bt,0,none⟩) 3 ct)→PlayO w V G N P b t pks sds gs ps lss nx vp vs (.slice (some ⟨bt,0,none⟩) 3 ct)):=hid (fun V hV=>hV.before HB1.o)
 have HBY1:Hid (BytesAt W1 a bs):=hid (HBY.o.later HB1.o)
 rw [hN0] at HX1 HB1 HZ1 HG3 HGH ⊢
 clear hN0 HBY
 have HOP:Hid (∀V,Below W1.heap.size W1 V→V.cell? ⟨N0,0,none⟩=some (.int .i64 kind)∧V.cell? ⟨N0,1,none⟩=some (.int .i64 (i0:Int))∧V.cell? ⟨N0,2,none⟩=some (.int .i64 (i1:Int))∧V.cell? ⟨N0,3,none⟩=some (.int .i64 (d:Int))∧V.cell? ⟨N0,4,none⟩=some (.int .i64 kd)∧V.cell? ⟨N0,5,none⟩=some (.int .i64 dy)∧V.cell? ⟨N0,6,none⟩=some (.slice a n c)∧V.cell? ⟨N0,7,none⟩=some (.int .i64 d1)∧V.cell? ⟨N0,8,none⟩=some (.int .i64 d2)):=hid (fun V h=>row9 ((h.block N0 (by rw [HZ1.o];omega)).trans HX1.o))
 have HWC:Hid (∀V,Below W1.heap.size W1 V→(V.cell? ⟨P,3,none⟩=some vs∧V.cell? ⟨P,4,none⟩=some (.slice (some ⟨bt,0,none⟩) 3 ct))∧ ∀i,i<3→V.cell? ⟨bt,i,none⟩=some (.pointer (some ⟨ps.getD i 0,0,none⟩))):=hid (fun V h=>by
  have h1:=HW1.o.later h
  obtain ⟨_,_,_,c3,c4,_⟩:=world_cells h1.wd.row
  refine ⟨⟨c3,c4⟩,fun i hi=> ?_⟩
  obtain ⟨_,a',c',he,_,_,hpt⟩:=ptrs_of_own h1.wd.sto
  obtain ⟨b',hb',hc⟩:=hpt i (by rw [h1.wd.tlen];exact hi)
  injection he with e1 e2 e3
  rw [← e1] at hb'
  injection hb' with hb'
  injection hb' with hb'
  rw [hb']
  exact hc)
 obtain ⟨p0,hp0⟩:=ex_eq (ps.getD i0 0)
 have HP0:=hid hp0
 clear hp0
 have HBD:Hid (Below W1.heap.size W1 W1.drew):=hid (Below.refl _ W1).drew
 obtain ⟨WD,hWD⟩:=ex_eq W1.drew
 rw [hWD] at HBD
 refine Kit.wp_region_gplan (fun V=>(V.cell? ⟨P,4,none⟩=some (.slice (some ⟨bt,0,none⟩) 3 ct)∧V.cell? ⟨bt,i0,none⟩=some (.pointer (some ⟨p0,0,none⟩)))∧V.cell? ⟨N0,1,none⟩=some (.int .i64 (i0:Int))) [(true,0),(true,1),(true,2),(true,3),(true,4),(true,5),(true,6),(true,7),(true,8)] (by kernel_rfl) (by kernel_rfl) (by kernel_rfl) (by kernel_rfl) (by rw [hWD];exact ⟨⟨(HWC.o _ HBD.o).1.2,by rw [← HP0.o];exact (HWC.o _ HBD.o).2 i0 HD.o.1⟩,(HOP.o _ HBD.o).2.1⟩) ?_
 rw [hWD]
 clear hWD
 iterate 9 (refine Kit.ghd (h:= ?_))
 refine Kit.gdn (h:=?_)
 obtain ⟨x0,x1,x2,x3,x4,x5,x6,x7,x8⟩:=HOP.o _ HBD.o
 obtain ⟨p1,hp1⟩:=ex_eq (ps.getD i1 0)
 have HP1:=hid hp1
 clear hp1
 have HSS:Hid (∀V,Below W1.heap.size W1 V→(V.cell? ⟨P,4,none⟩=some (.slice (some ⟨bt,0,none⟩) 3 ct)∧V.cell? ⟨bt,i1,none⟩=some (.pointer (some ⟨p1,0,none⟩)))∧V.cell? ⟨N0,2,none⟩=some (.int .i64 (i1:Int))):=hid (fun V h=>⟨⟨(HWC.o V h).1.2,by rw [← HP1.o];exact (HWC.o V h).2 i1 HD.o.2.1⟩,(HOP.o V h).2.2.1⟩)
 go_upto_region 9 with fail
 have HB2:Hid (Below W1.heap.size W1 WD.drew):=hid HBD.o.drew
 clear x0 x1 x2 x3 x4 x5 x6 x7 x8
 refine Kit.wp_region_gplan (fun V=>(V.cell? ⟨P,4,none⟩=some (.slice (some ⟨bt,0,none⟩) 3 ct)∧V.cell? ⟨bt,i1,none⟩=some (.pointer (some ⟨p1,0,none⟩)))∧V.cell? ⟨N0,2,none⟩=some (.int .i64 (i1:Int))) [(true,0),(true,1),(true,2),(true,3),(true,4),(true,5),(true,6),(true,7),(true,8),(false,9),(false,10),(true,11),(true,12),(true,13),(true,14),(true,15),(true,16),(true,17)] (by kernel_rfl) (by kernel_rfl) (by kernel_rfl) (by kernel_rfl) (HSS.o _ HB2.o) ?_
 obtain ⟨VD,hVD⟩:=ex_eq WD.drew
 rw [hVD] at HB2
 rw [hVD]
 clear hVD
 iterate 9 (refine Kit.ghd (h:= ?_))
 refine Kit.gplan_op (by rfl) (by rfl) fun K hK=> ?_
 go_simp
 have HV1:=HW1.o.later HB2.o
 have hvec:=vector_any VD (HV1.wd.st i1 HD.o.2.1) (by rw [HV1.len i1 HD.o.2.1];decide)
 rw [HP1.o] at hvec
 go_at_call 65
 with_reducible refine hvec.mono ?_
 rintro e w3 ⟨bl,L,rfl,hL,ho3,_,hb3⟩
 have HB3:Hid (Below W1.heap.size W1 w3):=hid (HB2.o.trans (hb3.mono HB2.o.size))
 have hL3:L=3:=by rw [← hL,HV1.len i1 HD.o.2.1]
 have hlv:(vecOf (lss i1)).length=3:=by unfold vecOf;rw [List.length_map,HV1.len i1 HD.o.2.1]
 obtain ⟨hz1,a9,cap9,he9,hz2,hz3,hI9,hz4⟩:=ints_of_own ho3
 subst hL3
 rw [hlv] at he9
 injection he9 with e1 e2 e3
 have HI9:Hid (IntsAt w3 (some ⟨bl,0,none⟩) (vecOf (lss i1))):=hid (by rw [e1];exact hI9)
 have hms:=(HW1.o.later HB3.o).missing i0 HD.o.1 (some ⟨bl,0,none⟩) 3 3 (vecOf (lss i1)) hlv (by decide) HI9.o
 rw [HP0.o] at hms
 clear hvec HV1 hL ho3 hb3 hI9 e1 e2 e3 hlv hz1 hz2 hz3 hz4
 refine hK _ _ (HSS.o _ HB3.o) ?_
 clear hK K
 refine Kit.gplan_op (by rfl) (by rfl) fun K hK=> ?_
 go_simp
 go_at_call 58
 with_reducible refine hms.mono ?_
 rintro e w4 ⟨v7,v8,xs,ys,rfl,hgt,_,_,hxl,hyl,hxb,hys,hb4⟩
 have HB4:Hid (Below W1.heap.size W1 w4):=hid (HB3.o.trans (hb4.mono HB3.o.size))
 have HGT:=hid hgt
 have HXL:Hid (xs.length≤12288∧ys.length≤3):=hid ⟨hxl,hyl⟩
 have HXB:=hid hxb
 have HYS:=hid hys
 have HM4:Hid (N0≤w3.heap.size∧w3.heap.size≤w4.heap.size):=hid ⟨by have:=HB3.o.size;have:=HZ1.o;omega,hb4.size⟩
 clear hgt hxl hyl hxb hys hb4 hms
 refine hK _ _ (HSS.o _ HB4.o) ?_
 clear hK K
 iterate 7 (refine Kit.ghd (h:= ?_))
 refine Kit.gdn (h:=?_)
 obtain ⟨x0,x1,x2,x3,x4,x5,x6,x7,x8⟩:=HOP.o _ HB4.o
 go_upto_region 11 with (first
  | (go_at_call 141
     (with_reducible refine (dropped_any d1 d2 (by have:=HXL.o;omega) (by have:=HXL.o;omega) w4 HGT.o HM4.o.2).mono ?_)
     rintro e w5 ⟨v1,v2,rfl,hg5,hb5⟩
     have HG5:=hid hg5
     have HB5:Hid (Below W1.heap.size W1 w5):=hid (HB4.o.trans (hb5.mono HB4.o.size))
     clear hg5 hb5 x0 x1 x2 x3 x4 x5 x6 x7 x8))
 have HBD5:Hid (Below W1.heap.size W1 w5.drew):=hid HB5.o.drew
 refine Kit.wp_region_gplan (fun V=>(V.cell? ⟨P,4,none⟩=some (.slice (some ⟨bt,0,none⟩) 3 ct)∧V.cell? ⟨bt,i1,none⟩=some (.pointer (some ⟨p1,0,none⟩)))∧V.cell? ⟨N0,2,none⟩=some (.int .i64 (i1:Int))) [(true,0),(true,1),(true,2),(true,3),(true,4),(true,5),(true,6),(true,7),(true,8),(true,9),(false,10),(true,11),(true,12),(true,13),(true,14)] (by kernel_rfl) (by kernel_rfl) (by kernel_rfl) (by kernel_rfl) (HSS.o _ HBD5.o) ?_
 have HG6:=hid (HG5.o.later (Below.refl _ w5).drew)
 obtain ⟨VE,hVE⟩:=ex_eq w5.drew
 rw [hVE] at HBD5 HG6
 rw [hVE]
 clear hVE
 iterate 10 (refine Kit.ghd (h:= ?_))
 refine Kit.gplan_op (by rfl) (by rfl) fun K hK=> ?_
 go_simp
 have hmg:=(HW1.o.later HBD5.o).merge i1 HD.o.2.1 (fun q hq=>HGH.o q (Nat.le_trans HM4.o.1 hq)) HG6.o (by have h1:=dropT_len ys d2 ys.length;have h2:=HXL.o;omega) (fun x hx=>HXB.o x (dropT_mem hx)) (fun y hy=>HYS.o y (dropT_mem hy))
 rw [HP1.o] at hmg
 go_at_call 61
 with_reducible refine hmg.mono ?_
 rintro e w6 ⟨m,er,rfl,ho⟩
 have HPO:Hid (PlayO w w6 G N P b t pks sds gs ps lss nx vp vs (.slice (some ⟨bt,0,none⟩) 3 ct)):=hid (HPRE.o _ (ho.before HBD5.o))
 have HS6:Hid ((w6.cell? ⟨P,4,none⟩=some (.slice (some ⟨bt,0,none⟩) 3 ct)∧w6.cell? ⟨bt,i1,none⟩=some (.pointer (some ⟨p1,0,none⟩)))∧w6.cell? ⟨N0,2,none⟩=some (.int .i64 (i1:Int))):=hid (by
  obtain ⟨⟨c1,c2⟩,c3⟩:=HSS.o VE HBD5.o
  exact ⟨⟨ho.cell c1 (by have:=HG3.o;omega),ho.cell c2 (by have:=HG3.o;omega)⟩,ho.cell c3 (by have:=HG3.o;omega)⟩)
 clear ho hmg
 refine hK _ _ HS6.o ?_
 clear hK K
 iterate 4 (refine Kit.ghd (h:= ?_))
 refine Kit.gdn (h:=?_)
 go_wp2_with fail
 go_ret2
 exact ⟨_,_,rfl,HPO.o⟩
theorem play_any {G:Nat→Nat} {N P b t:Nat} {pks sds:List ByteArray} {gs ps:List Nat} {lss:Nat→List Lin} {nx:Nat→Nat} {vp vs vt:Value} (w:World) (h:WI w G N P b t pks sds gs ps lss nx vp vs vt) (hB4:b≤4) (kind:Int) (i0 i1 d:Nat) (hi0:i0<3) (hi1:i1<3) (hd:d<3) (kd dy:Int) (a:Option Addr) (n c:Nat) (bs:List Nat) (hn:bs.length=n) (hn2:n≤69632) (hB:BytesAt w a bs) (d1 d2:Int):Calls Tryz.prog 56 #[.pointer (some ⟨P,0,none⟩),.agg #[.int .i64 kind,.int .i64 (i0:Int),.int .i64 (i1:Int),.int .i64 (d:Int),.int .i64 kd,.int .i64 dy,.slice a n c,.int .i64 d1,.int .i64 d2]] w fun e w'=> ∃(m er:Int),e= .returned (.tuple #[.int .i64 m,.int .i64 er])∧PlayO w w' G N P b t pks sds gs ps lss nx vp vs vt:=by
 by_cases h0:kind=0
 ·subst h0
  exact play_append w h hB4 i0 i1 d hi0 hi1 hd kd dy a n c bs hn hn2 hB d1 d2
 ·by_cases h1:kind=1
  ·subst h1
   exact play_seal w h hB4 i0 i1 d hi0 hi1 hd kd dy a n c bs hn hn2 hB d1 d2
  ·exact play_send w h hB4 kind i0 i1 d hi0 hi1 hd kd dy a n c bs hn hn2 hB d1 d2 (by rw [beq_eq_false_iff_ne];exact h0) (by rw [beq_eq_false_iff_ne];exact h1)
end Go.Proofs.YtndlihclgdkpaaaGreatDoor
