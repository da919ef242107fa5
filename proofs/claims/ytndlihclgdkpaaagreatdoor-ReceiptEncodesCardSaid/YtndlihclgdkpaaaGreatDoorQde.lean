/- receipt.Decode, walked. -/
import Derived.Test.YtndlihclgdkpaaaGreatDoorGk
import Derived.Test.YtndlihclgdkpaaaGreatDoorQrd
import Derived.Test.YtndlihclgdkpaaaGreatDoorQva
set_option linter.unusedVariables false
set_option linter.unusedSimpArgs false
open Go.Lib (hid)
namespace Go.Proofs.YtndlihclgdkpaaaGreatDoor
open Go.RowKit
open Kit (Chg)
open Sha (v)
open Go.Proofs.YtndlihclgdkpaaaGreatDoor.One

def no8 (row:Array Value):Prop:= ∀(i:Nat) (x:Int),row[i]? ≠some (.int .u8 x)
theorem RdAt.put {V:World} {p:Nat} {D:List Nat} {s:RS} (h:RdAt V p D s) {A:Nat} {row:Array Value} {T:TypeId} (hA:p≠A) (hg:V.heap[A]? =some (.cells row T (0,0))) (hn:no8 row) (j:Nat) (y:Value):RdAt (V.setCell ⟨A,j,none⟩ y) p D s:=by
 obtain ⟨ad,c,off,last,er,h1,h2,h6,h3,h4,h5⟩:=h
 refine ⟨ad,c,off,last,er,h1.ne hA _,h2,h6,?_,h4,h5⟩
 refine bytes_ne h3 ((Chg.refl (fun q _=>q=A) V).setCell _ (rfl:A=A)) (fun h0 z e i hm=> ?_)
 have h7:z.block=A:=hm
 obtain ⟨b,o,he,hc⟩:=h3.some (List.length_pos_iff.2 h0)
 rw [he] at e
 cases e
 have h8:=hc 0 (List.length_pos_iff.2 h0)
 simp only at h7
 subst h7
 rw [cell_of_row _ _ _ _ _ _ hg] at h8
 exact hn _ _ h8
structure DcR (w V:World) (N A1 p:Nat) (bs:List Nat) (row:Array Value) (s:RS) (ls:List (Nat × Array Value × TypeId)):Prop where
 x1:V.heap[A1]? =some (.cells row 47 (0,0))
 rd:RdAt V p bs s
 bel:Below N w V
 ord:N≤A1∧A1<p∧p<V.heap.size
 ls: ∀q ∈ ls,V.heap[q.1]? =some (.cells q.2.1 q.2.2 (0,0))∧q.1≠p∧q.1≠A1
theorem DcR.call {w V V':World} {N A1 p:Nat} {bs:List Nat} {row:Array Value} {s s':RS} {ls:List (Nat × Array Value × TypeId)} (h:DcR w V N A1 p bs row s ls) (hc:Chg (RdM p) V V') (hr:RdAt V' p bs s'):DcR w V' N A1 p bs row s' ls:=by
 have ho:=h.ord
 have l1:A1<V.heap.size:=(gS h.x1).1
 have hsz:=hc.size
 refine ⟨(hc.other A1 l1 (fun i hm=>by have h1:A1=p:=hm;omega)).trans h.x1,hr,?_,⟨ho.1,ho.2.1,by omega⟩,fun q hq=> ?_⟩
 ·exact h.bel.trans (hc.below (by omega) (fun q i hq hm=>by have h1:q=p:=hm;omega))
 ·obtain ⟨h1,h2,h3⟩:=h.ls q hq
  exact ⟨(hc.other q.1 (gS h1).1 (fun i hm=>h2 hm)).trans h1,h2,h3⟩
theorem DcR.later {w V V':World} {N A1 p:Nat} {bs:List Nat} {row:Array Value} {s:RS} {ls:List (Nat × Array Value × TypeId)} (h:DcR w V N A1 p bs row s ls) (hb:Below V.heap.size V V'):DcR w V' N A1 p bs row s ls:=by
 have ho:=h.ord
 have l1:A1<V.heap.size:=(gS h.x1).1
 have hsz:=hb.size
 refine ⟨(hb.block A1 l1).trans h.x1,h.rd.later hb,h.bel.trans (hb.mono (by omega)),⟨ho.1,ho.2.1,by omega⟩,fun q hq=> ?_⟩
 obtain ⟨h1,h2,h3⟩:=h.ls q hq
 exact ⟨(hb.block q.1 (gS h1).1).trans h1,h2,h3⟩
theorem DcR.put {w V:World} {N A1 p:Nat} {bs:List Nat} {row row':Array Value} {s:RS} {ls:List (Nat × Array Value × TypeId)} (h:DcR w V N A1 p bs row s ls) (hn:no8 row) (j:Nat) (y:Value) (hrow:(V.setCell ⟨A1,j,none⟩ y).heap[A1]? =some (.cells row' 47 (0,0))):DcR w (V.setCell ⟨A1,j,none⟩ y) N A1 p bs row' s ls:=by
 have ho:=h.ord
 have hsz:(V.setCell ⟨A1,j,none⟩ y).heap.size=V.heap.size:=World.size_setCell ..
 refine ⟨hrow,h.rd.put (by omega) h.x1 hn j y,h.bel.setCell (by show N≤A1;omega) _,⟨ho.1,ho.2.1,by omega⟩,fun q hq=> ?_⟩
 obtain ⟨h1,h2,h3⟩:=h.ls q hq
 exact ⟨(heap_put_ne h3).trans h1,h2,h3⟩
theorem DcR.more {w V:World} {N A1 p:Nat} {bs:List Nat} {row:Array Value} {s:RS} {ls:List (Nat × Array Value × TypeId)} (h:DcR w V N A1 p bs row s ls) {b:Nat} {c:Array Value} {T:TypeId} (hg:V.heap[b]? =some (.cells c T (0,0))) (h1:b≠p) (h2:b≠A1):DcR w V N A1 p bs row s ((b,c,T)::ls):=⟨h.x1,h.rd,h.bel,h.ord,fun q hq=>by
 rcases List.mem_cons.1 hq with rfl | hq
 ·exact ⟨hg,h1,h2⟩
 ·exact h.ls q hq⟩
theorem no8_rc (hol vlt:Int) (str:ByteArray) (ix sz day ser cnt pl:Int) (root:ByteArray) (ap:Option Addr) (n1 c1:Nat) (si:Int) (aq:Option Addr) (n2 c2:Nat) (ar:Option Addr) (n3 c3:Nat):no8 #[.int .i64 hol,.int .i64 vlt,.string str,.int .i64 ix,.int .i64 sz,.int .i64 day,.int .i64 ser,.int .i64 cnt,.int .i64 pl,.string root,.slice ap n1 c1,.int .i64 si,.slice aq n2 c2,.slice ar n3 c3]:=by
 intro i x h
 match i,h with
 | 0,h=>cases h
 | 1,h=>cases h
 | 2,h=>cases h
 | 3,h=>cases h
 | 4,h=>cases h
 | 5,h=>cases h
 | 6,h=>cases h
 | 7,h=>cases h
 | 8,h=>cases h
 | 9,h=>cases h
 | 10,h=>cases h
 | 11,h=>cases h
 | 12,h=>cases h
 | 13,h=>cases h
 | i+14,h=>cases h
def DecROut (X:(Nat × Nat × List Nat × Nat × Nat × Nat × Nat × Nat × Nat × List (List Nat) × List Nat × Nat × List (List Nat) × List (List Nat)) × RS) (e:Ending) (w':World):Prop:=
 (X.2=some []∧validR (rcOf X.1)=true∧ ∃x:RcV,x.r=rcOf X.1∧x.ok w'∧e= .returned (.tuple #[.agg x.cells.toArray,.int .i64 0]))∨(¬(X.2=some []∧validR (rcOf X.1)=true)∧e= .returned (.tuple #[.agg #[.int .i64 0,.int .i64 0,.string ByteArray.empty,.int .i64 0,.int .i64 0,.int .i64 0,.int .i64 0,.int .i64 0,.int .i64 0,.string ByteArray.empty,.slice none 0 0,.int .i64 0,.slice none 0 0,.slice none 0 0],.int .i64 3]))
set_option maxRecDepth 100000 in
set_option maxHeartbeats 4000000 in
theorem decodeR_any (a:Option Addr) (n c:Nat) (bs:List Nat) (hn:bs.length=n) (hl:n≤10000000) (hnil:a=none→c=0) (w:World) (hB:BytesAt w a bs):
    Calls Tryz.prog 26 #[.slice a n c] w fun e w'=>DecROut (rdAll (some bs)) e w'∧Below w.heap.size w w':=by
 have HNR:=hid (fun w h=>newReader_any a n c bs hn (by omega) hnil w h)
 have HB:=hid hB
 have HLB:Hid (bs.length≤1000000000):=hid (by omega)
 obtain ⟨⟨v0,s1⟩,hr0⟩:=ex_eq (rdU mx (some bs))
 have HR0:=hid hr0
 obtain ⟨⟨v1,s2⟩,hr1⟩:=ex_eq (rdU mx s1)
 have HR1:=hid hr1
 obtain ⟨⟨xs,s3⟩,hr2⟩:=ex_eq (rdS s2)
 have HR2:=hid hr2
 obtain ⟨⟨v3,s4⟩,hr3⟩:=ex_eq (rdU mx s3)
 have HR3:=hid hr3
 obtain ⟨⟨v4,s5⟩,hr4⟩:=ex_eq (rdU mx s4)
 have HR4:=hid hr4
 obtain ⟨⟨v5,s6⟩,hr5⟩:=ex_eq (rdU mx s5)
 have HR5:=hid hr5
 obtain ⟨⟨v6,s7⟩,hr6⟩:=ex_eq (rdU mx s6)
 have HR6:=hid hr6
 obtain ⟨⟨v7,s8⟩,hr7⟩:=ex_eq (rdU mx s7)
 have HR7:=hid hr7
 obtain ⟨⟨v8,s9⟩,hr8⟩:=ex_eq (rdU mx s8)
 have HR8:=hid hr8
 obtain ⟨⟨l1,s10⟩,hr9⟩:=ex_eq (rdL 8 s9)
 have HR9:=hid hr9
 obtain ⟨⟨xr,s11⟩,hr10⟩:=ex_eq (rdS s10)
 have HR10:=hid hr10
 obtain ⟨⟨vi,s12⟩,hr11⟩:=ex_eq (rdU mx s11)
 have HR11:=hid hr11
 obtain ⟨⟨l2,s13⟩,hr12⟩:=ex_eq (rdL 300 s12)
 have HR12:=hid hr12
 obtain ⟨⟨l3,s14⟩,hr13⟩:=ex_eq (rdL 8 s13)
 have HR13:=hid hr13
 have HX:Hid (rdAll (some bs)=((v0,v1,xs,v3,v4,v5,v6,v7,v8,l1,xr,vi,l2,l3),s14)):=hid (by
  unfold rdAll thenR
  simp only [hr0,hr1,hr2,hr3,hr4,hr5,hr6,hr7,hr8,hr9,hr10,hr11,hr12,hr13])
 rw [HX.o]
 clear hr0 hr1 hr2 hr3 hr4 hr5 hr6 hr7 hr8 hr9 hr10 hr11 hr12 hr13 hB hnil hn
 obtain ⟨zs,hzs⟩:=ex_eq (strB xs)
 obtain ⟨zr,hzr⟩:=ex_eq (strB xr)
 have HZS:=hid hzs
 have HZR:=hid hzr
 clear hzs hzr
 go_enter Tryz.func26,Tryz.ntmps26
 go_upto_region 3 with (first
  | (go_at_call 109
     (with_reducible refine (HNR.o _ (HB.o.later two_below)).mono ?_)
     rintro e w2 ⟨p,rfl,hp,hrd,h2⟩
     have HP:=hid hp
     have HRD:=hid hrd
     have H2:=hid h2
     clear hp hrd h2))
 have HPL:Hid (p<w2.heap.size):=hid (by obtain ⟨ad,c,off,last,er,h,_⟩:=HRD.o;exact h.lt)
 have HD0:Hid (DcR w w2 w.heap.size (w.heap.size+1) p bs #[.int .i64 0,.int .i64 0,.string ByteArray.empty,.int .i64 0,.int .i64 0,.int .i64 0,.int .i64 0,.int .i64 0,.int .i64 0,.string ByteArray.empty,.slice none 0 0,.int .i64 0,.slice none 0 0,.slice none 0 0] (some bs) [(w.heap.size,#[.int .i64 0,.int .i64 0,.string ByteArray.empty,.int .i64 0,.int .i64 0,.int .i64 0,.int .i64 0,.int .i64 0,.int .i64 0,.string ByteArray.empty,.slice none 0 0,.int .i64 0,.slice none 0 0,.slice none 0 0], 47)]):=hid (by
  have h1:=HP.o
  have h2:=HPL.o
  simp only [World.size_alloc] at h1
  refine ⟨(H2.o.block (w.heap.size+1) (by simp only [World.size_alloc];omega)).trans two_rows2,HRD.o,two_below.trans (H2.o.mono (by simp only [World.size_alloc];omega)),⟨by omega,by omega,h2⟩,fun q hq=> ?_⟩
  rw [List.mem_singleton.1 hq]
  exact ⟨(H2.o.block w.heap.size (by simp only [World.size_alloc];omega)).trans two_rows1,by show w.heap.size≠p;omega,by show w.heap.size≠w.heap.size+1;omega⟩)
 obtain ⟨N,hN⟩:=ex_eq w.heap.size
 obtain ⟨A1,hA1⟩:=ex_eq (w.heap.size+1)
 have HN:=hid hN
 have HNA:Hid (A1=N+1):=hid (by omega)
 rw [hA1] at HD0 ⊢
 rw [hN] at HD0 ⊢
 clear hN hA1 HP HRD H2 HPL
 have HU0:Hid (∀V,RdAt V p bs (some bs)→Calls Tryz.prog 110 #[.pointer (some ⟨p,0,none⟩)] V fun e w'=>e= .returned (.int .i64 (v0:Int))∧RdAt w' p bs s1∧Chg (RdM p) V w'):=hid (fun V h=>by
  have h1:=readUintR_any p bs (some bs) HLB.o V h
  rwa [HR0.o] at h1)
 have HU1:Hid (∀V,RdAt V p bs s1→Calls Tryz.prog 110 #[.pointer (some ⟨p,0,none⟩)] V fun e w'=>e= .returned (.int .i64 (v1:Int))∧RdAt w' p bs s2∧Chg (RdM p) V w'):=hid (fun V h=>by
  have h1:=readUintR_any p bs s1 HLB.o V h
  rwa [HR1.o] at h1)
 have HU2:Hid (∀V,RdAt V p bs s2→Calls Tryz.prog 111 #[.pointer (some ⟨p,0,none⟩)] V fun e w'=>e= .returned (.string zs)∧RdAt w' p bs s3∧Chg (RdM p) V w'):=hid (fun V h=>by
  have h1:=rdSum_any p bs s2 HLB.o V h
  rw [HR2.o] at h1
  rwa [show strB xs=zs from HZS.o] at h1)
 have HU3:Hid (∀V,RdAt V p bs s3→Calls Tryz.prog 110 #[.pointer (some ⟨p,0,none⟩)] V fun e w'=>e= .returned (.int .i64 (v3:Int))∧RdAt w' p bs s4∧Chg (RdM p) V w'):=hid (fun V h=>by
  have h1:=readUintR_any p bs s3 HLB.o V h
  rwa [HR3.o] at h1)
 have HU4:Hid (∀V,RdAt V p bs s4→Calls Tryz.prog 110 #[.pointer (some ⟨p,0,none⟩)] V fun e w'=>e= .returned (.int .i64 (v4:Int))∧RdAt w' p bs s5∧Chg (RdM p) V w'):=hid (fun V h=>by
  have h1:=readUintR_any p bs s4 HLB.o V h
  rwa [HR4.o] at h1)
 have HU5:Hid (∀V,RdAt V p bs s5→Calls Tryz.prog 110 #[.pointer (some ⟨p,0,none⟩)] V fun e w'=>e= .returned (.int .i64 (v5:Int))∧RdAt w' p bs s6∧Chg (RdM p) V w'):=hid (fun V h=>by
  have h1:=readUintR_any p bs s5 HLB.o V h
  rwa [HR5.o] at h1)
 have HU6:Hid (∀V,RdAt V p bs s6→Calls Tryz.prog 110 #[.pointer (some ⟨p,0,none⟩)] V fun e w'=>e= .returned (.int .i64 (v6:Int))∧RdAt w' p bs s7∧Chg (RdM p) V w'):=hid (fun V h=>by
  have h1:=readUintR_any p bs s6 HLB.o V h
  rwa [HR6.o] at h1)
 have HU7:Hid (∀V,RdAt V p bs s7→Calls Tryz.prog 110 #[.pointer (some ⟨p,0,none⟩)] V fun e w'=>e= .returned (.int .i64 (v7:Int))∧RdAt w' p bs s8∧Chg (RdM p) V w'):=hid (fun V h=>by
  have h1:=readUintR_any p bs s7 HLB.o V h
  rwa [HR7.o] at h1)
 have HU8:Hid (∀V,RdAt V p bs s8→Calls Tryz.prog 110 #[.pointer (some ⟨p,0,none⟩)] V fun e w'=>e= .returned (.int .i64 (v8:Int))∧RdAt w' p bs s9∧Chg (RdM p) V w'):=hid (fun V h=>by
  have h1:=readUintR_any p bs s8 HLB.o V h
  rwa [HR8.o] at h1)
 have HU9:Hid (∀V,p<V.heap.size→RdAt V p bs s9→Calls Tryz.prog 112 #[.pointer (some ⟨p,0,none⟩),.int .i64 8] V fun e w'=> ∃(b L:Nat),e= .returned (.slice (some ⟨b,0,none⟩) L L)∧V.heap.size≤b∧L≤8∧l1.length=L∧w'.heap[b]? =some (.cells (strV (l1.map strB)).toArray 9 (0,0))∧RdAt w' p bs s10∧Chg (RdM p) V w'):=hid (fun V hp h=>by
  have h1:=readSums_any p bs s9 HLB.o 8 (by decide) V h hp
  rwa [HR9.o] at h1)
 have HU10:Hid (∀V,RdAt V p bs s10→Calls Tryz.prog 111 #[.pointer (some ⟨p,0,none⟩)] V fun e w'=>e= .returned (.string zr)∧RdAt w' p bs s11∧Chg (RdM p) V w'):=hid (fun V h=>by
  have h1:=rdSum_any p bs s10 HLB.o V h
  rw [HR10.o] at h1
  rwa [show strB xr=zr from HZR.o] at h1)
 have HU11:Hid (∀V,RdAt V p bs s11→Calls Tryz.prog 110 #[.pointer (some ⟨p,0,none⟩)] V fun e w'=>e= .returned (.int .i64 (vi:Int))∧RdAt w' p bs s12∧Chg (RdM p) V w'):=hid (fun V h=>by
  have h1:=readUintR_any p bs s11 HLB.o V h
  rwa [HR11.o] at h1)
 have HU12:Hid (∀V,p<V.heap.size→RdAt V p bs s12→Calls Tryz.prog 112 #[.pointer (some ⟨p,0,none⟩),.int .i64 300] V fun e w'=> ∃(b L:Nat),e= .returned (.slice (some ⟨b,0,none⟩) L L)∧V.heap.size≤b∧L≤300∧l2.length=L∧w'.heap[b]? =some (.cells (strV (l2.map strB)).toArray 9 (0,0))∧RdAt w' p bs s13∧Chg (RdM p) V w'):=hid (fun V hp h=>by
  have h1:=readSums_any p bs s12 HLB.o 300 (by decide) V h hp
  rwa [HR12.o] at h1)
 have HU13:Hid (∀V,p<V.heap.size→RdAt V p bs s13→Calls Tryz.prog 112 #[.pointer (some ⟨p,0,none⟩),.int .i64 8] V fun e w'=> ∃(b L:Nat),e= .returned (.slice (some ⟨b,0,none⟩) L L)∧V.heap.size≤b∧L≤8∧l3.length=L∧w'.heap[b]? =some (.cells (strV (l3.map strB)).toArray 9 (0,0))∧RdAt w' p bs s14∧Chg (RdM p) V w'):=hid (fun V hp h=>by
  have h1:=readSums_any p bs s13 HLB.o 8 (by decide) V h hp
  rwa [HR13.o] at h1)
 go_upto_region 4 with (first
  | (go_at_call 110
     (with_reducible refine (HU0.o _ HD0.o.rd).mono ?_)
     rintro e w3 ⟨rfl,hrd,hch⟩
     have Hw3:=hid (HD0.o.call hch hrd)
     clear hrd hch
     skip)
  | (go_at_call 110
     (with_reducible refine (HU1.o _ Hw3.o.rd).mono ?_)
     rintro e w4 ⟨rfl,hrd,hch⟩
     have Hw4:=hid (Hw3.o.call hch hrd)
     clear hrd hch
     obtain ⟨d0,d1,d2,d3,d4,d5,d6,d7,d8,d9,d10,d11,d12,d13⟩:=row14 Hw4.o.x1
     clear d2 d3 d4 d5 d6 d7 d8 d9 d10 d11 d12 d13
     have fz: ∀i,w4.frozen? ⟨A1,i,none⟩=false:=fun i=>frozen_of_row _ _ _ _ _ Hw4.o.x1
     skip))
 clear d0 d1 fz
 refine wp_over (fun V=>Hid (DcR w V N A1 p bs #[.int .i64 (v0:Int),.int .i64 (v1:Int),.string ByteArray.empty,.int .i64 0,.int .i64 0,.int .i64 0,.int .i64 0,.int .i64 0,.int .i64 0,.string ByteArray.empty,.slice none 0 0,.int .i64 0,.slice none 0 0,.slice none 0 0] s2 [(N,#[.int .i64 0,.int .i64 0,.string ByteArray.empty,.int .i64 0,.int .i64 0,.int .i64 0,.int .i64 0,.int .i64 0,.int .i64 0,.string ByteArray.empty,.slice none 0 0,.int .i64 0,.slice none 0 0,.slice none 0 0], 47)])) (hid (((Hw4.o).put (no8_rc _ _ _ _ _ _ _ _ _ _ _ _ _ _ _ _ _ _ _ _) 0 _ (heap_setCell_same _ A1 0 _ _ _ (Hw4.o).x1)).put (no8_rc _ _ _ _ _ _ _ _ _ _ _ _ _ _ _ _ _ _ _ _) 1 _ (heap_setCell_same _ A1 1 _ _ _ ((Hw4.o).put (no8_rc _ _ _ _ _ _ _ _ _ _ _ _ _ _ _ _ _ _ _ _) 0 _ (heap_setCell_same _ A1 0 _ _ _ (Hw4.o).x1)).x1))) ?_
 rintro Y1 HDY1
 go_upto_region 5 with (first
  | (go_at_call 111
     (with_reducible refine (HU2.o _ HDY1.o.rd).mono ?_)
     rintro e w5 ⟨rfl,hrd,hch⟩
     have Hw5:=hid (HDY1.o.call hch hrd)
     clear hrd hch
     obtain ⟨d0,d1,d2,d3,d4,d5,d6,d7,d8,d9,d10,d11,d12,d13⟩:=row14 Hw5.o.x1
     clear d0 d1 d3 d4 d5 d6 d7 d8 d9 d10 d11 d12 d13
     have fz: ∀i,w5.frozen? ⟨A1,i,none⟩=false:=fun i=>frozen_of_row _ _ _ _ _ Hw5.o.x1
     skip))
 clear d2 fz
 refine wp_over (fun V=>Hid (DcR w V N A1 p bs #[.int .i64 (v0:Int),.int .i64 (v1:Int),.string zs,.int .i64 0,.int .i64 0,.int .i64 0,.int .i64 0,.int .i64 0,.int .i64 0,.string ByteArray.empty,.slice none 0 0,.int .i64 0,.slice none 0 0,.slice none 0 0] s3 [(N,#[.int .i64 0,.int .i64 0,.string ByteArray.empty,.int .i64 0,.int .i64 0,.int .i64 0,.int .i64 0,.int .i64 0,.int .i64 0,.string ByteArray.empty,.slice none 0 0,.int .i64 0,.slice none 0 0,.slice none 0 0], 47)])) (hid ((Hw5.o).put (no8_rc _ _ _ _ _ _ _ _ _ _ _ _ _ _ _ _ _ _ _ _) 2 _ (heap_setCell_same _ A1 2 _ _ _ (Hw5.o).x1))) ?_
 rintro Y2 HDY2
 go_upto_region 6 with fail
 have HDL:Hid (DcR w (Y2.alloc (.cells #[.pointer (some ⟨A1,3,none⟩),.pointer (some ⟨A1,4,none⟩),.pointer (some ⟨A1,5,none⟩),.pointer (some ⟨A1,6,none⟩),.pointer (some ⟨A1,7,none⟩),.pointer (some ⟨A1,8,none⟩)] 174)) N A1 p bs #[.int .i64 (v0:Int),.int .i64 (v1:Int),.string zs,.int .i64 0,.int .i64 0,.int .i64 0,.int .i64 0,.int .i64 0,.int .i64 0,.string ByteArray.empty,.slice none 0 0,.int .i64 0,.slice none 0 0,.slice none 0 0] s3 [(Y2.heap.size,#[.pointer (some ⟨A1,3,none⟩),.pointer (some ⟨A1,4,none⟩),.pointer (some ⟨A1,5,none⟩),.pointer (some ⟨A1,6,none⟩),.pointer (some ⟨A1,7,none⟩),.pointer (some ⟨A1,8,none⟩)], 174),(N,#[.int .i64 0,.int .i64 0,.string ByteArray.empty,.int .i64 0,.int .i64 0,.int .i64 0,.int .i64 0,.int .i64 0,.int .i64 0,.string ByteArray.empty,.slice none 0 0,.int .i64 0,.slice none 0 0,.slice none 0 0], 47)]):=hid ((HDY2.o.later ((Below.refl _ _).alloc (Nat.le_refl _) _)).more (heap_alloc_new _ _) (by have:=HDY2.o.ord;omega) (by have:=HDY2.o.ord;omega))
 refine wp_over (fun V=>Hid (DcR w V N A1 p bs #[.int .i64 (v0:Int),.int .i64 (v1:Int),.string zs,.int .i64 0,.int .i64 0,.int .i64 0,.int .i64 0,.int .i64 0,.int .i64 0,.string ByteArray.empty,.slice none 0 0,.int .i64 0,.slice none 0 0,.slice none 0 0] s3 [(Y2.heap.size,#[.pointer (some ⟨A1,3,none⟩),.pointer (some ⟨A1,4,none⟩),.pointer (some ⟨A1,5,none⟩),.pointer (some ⟨A1,6,none⟩),.pointer (some ⟨A1,7,none⟩),.pointer (some ⟨A1,8,none⟩)], 174),(N,#[.int .i64 0,.int .i64 0,.string ByteArray.empty,.int .i64 0,.int .i64 0,.int .i64 0,.int .i64 0,.int .i64 0,.int .i64 0,.string ByteArray.empty,.slice none 0 0,.int .i64 0,.slice none 0 0,.slice none 0 0], 47)])) HDL ?_
 rintro Y3 HDY3
 obtain ⟨PB,hPB⟩:=ex_eq Y2.heap.size
 rw [hPB] at HDY3 ⊢
 clear hPB HDL HDY2
 go_loopw [31] (fun z wr=>(z= .int .i64 0∧Hid (DcR w wr N A1 p bs #[.int .i64 (v0:Int),.int .i64 (v1:Int),.string zs,.int .i64 0,.int .i64 0,.int .i64 0,.int .i64 0,.int .i64 0,.int .i64 0,.string ByteArray.empty,.slice none 0 0,.int .i64 0,.slice none 0 0,.slice none 0 0] s3 [(PB,#[.pointer (some ⟨A1,3,none⟩),.pointer (some ⟨A1,4,none⟩),.pointer (some ⟨A1,5,none⟩),.pointer (some ⟨A1,6,none⟩),.pointer (some ⟨A1,7,none⟩),.pointer (some ⟨A1,8,none⟩)], 174),(N,#[.int .i64 0,.int .i64 0,.string ByteArray.empty,.int .i64 0,.int .i64 0,.int .i64 0,.int .i64 0,.int .i64 0,.int .i64 0,.string ByteArray.empty,.slice none 0 0,.int .i64 0,.slice none 0 0,.slice none 0 0], 47)]))∨(z= .int .i64 1∧Hid (DcR w wr N A1 p bs #[.int .i64 (v0:Int),.int .i64 (v1:Int),.string zs,.int .i64 (v3:Int),.int .i64 0,.int .i64 0,.int .i64 0,.int .i64 0,.int .i64 0,.string ByteArray.empty,.slice none 0 0,.int .i64 0,.slice none 0 0,.slice none 0 0] s4 [(PB,#[.pointer (some ⟨A1,3,none⟩),.pointer (some ⟨A1,4,none⟩),.pointer (some ⟨A1,5,none⟩),.pointer (some ⟨A1,6,none⟩),.pointer (some ⟨A1,7,none⟩),.pointer (some ⟨A1,8,none⟩)], 174),(N,#[.int .i64 0,.int .i64 0,.string ByteArray.empty,.int .i64 0,.int .i64 0,.int .i64 0,.int .i64 0,.int .i64 0,.int .i64 0,.string ByteArray.empty,.slice none 0 0,.int .i64 0,.slice none 0 0,.slice none 0 0], 47)]))∨(z= .int .i64 2∧Hid (DcR w wr N A1 p bs #[.int .i64 (v0:Int),.int .i64 (v1:Int),.string zs,.int .i64 (v3:Int),.int .i64 (v4:Int),.int .i64 0,.int .i64 0,.int .i64 0,.int .i64 0,.string ByteArray.empty,.slice none 0 0,.int .i64 0,.slice none 0 0,.slice none 0 0] s5 [(PB,#[.pointer (some ⟨A1,3,none⟩),.pointer (some ⟨A1,4,none⟩),.pointer (some ⟨A1,5,none⟩),.pointer (some ⟨A1,6,none⟩),.pointer (some ⟨A1,7,none⟩),.pointer (some ⟨A1,8,none⟩)], 174),(N,#[.int .i64 0,.int .i64 0,.string ByteArray.empty,.int .i64 0,.int .i64 0,.int .i64 0,.int .i64 0,.int .i64 0,.int .i64 0,.string ByteArray.empty,.slice none 0 0,.int .i64 0,.slice none 0 0,.slice none 0 0], 47)]))∨(z= .int .i64 3∧Hid (DcR w wr N A1 p bs #[.int .i64 (v0:Int),.int .i64 (v1:Int),.string zs,.int .i64 (v3:Int),.int .i64 (v4:Int),.int .i64 (v5:Int),.int .i64 0,.int .i64 0,.int .i64 0,.string ByteArray.empty,.slice none 0 0,.int .i64 0,.slice none 0 0,.slice none 0 0] s6 [(PB,#[.pointer (some ⟨A1,3,none⟩),.pointer (some ⟨A1,4,none⟩),.pointer (some ⟨A1,5,none⟩),.pointer (some ⟨A1,6,none⟩),.pointer (some ⟨A1,7,none⟩),.pointer (some ⟨A1,8,none⟩)], 174),(N,#[.int .i64 0,.int .i64 0,.string ByteArray.empty,.int .i64 0,.int .i64 0,.int .i64 0,.int .i64 0,.int .i64 0,.int .i64 0,.string ByteArray.empty,.slice none 0 0,.int .i64 0,.slice none 0 0,.slice none 0 0], 47)]))∨(z= .int .i64 4∧Hid (DcR w wr N A1 p bs #[.int .i64 (v0:Int),.int .i64 (v1:Int),.string zs,.int .i64 (v3:Int),.int .i64 (v4:Int),.int .i64 (v5:Int),.int .i64 (v6:Int),.int .i64 0,.int .i64 0,.string ByteArray.empty,.slice none 0 0,.int .i64 0,.slice none 0 0,.slice none 0 0] s7 [(PB,#[.pointer (some ⟨A1,3,none⟩),.pointer (some ⟨A1,4,none⟩),.pointer (some ⟨A1,5,none⟩),.pointer (some ⟨A1,6,none⟩),.pointer (some ⟨A1,7,none⟩),.pointer (some ⟨A1,8,none⟩)], 174),(N,#[.int .i64 0,.int .i64 0,.string ByteArray.empty,.int .i64 0,.int .i64 0,.int .i64 0,.int .i64 0,.int .i64 0,.int .i64 0,.string ByteArray.empty,.slice none 0 0,.int .i64 0,.slice none 0 0,.slice none 0 0], 47)]))∨(z= .int .i64 5∧Hid (DcR w wr N A1 p bs #[.int .i64 (v0:Int),.int .i64 (v1:Int),.string zs,.int .i64 (v3:Int),.int .i64 (v4:Int),.int .i64 (v5:Int),.int .i64 (v6:Int),.int .i64 (v7:Int),.int .i64 0,.string ByteArray.empty,.slice none 0 0,.int .i64 0,.slice none 0 0,.slice none 0 0] s8 [(PB,#[.pointer (some ⟨A1,3,none⟩),.pointer (some ⟨A1,4,none⟩),.pointer (some ⟨A1,5,none⟩),.pointer (some ⟨A1,6,none⟩),.pointer (some ⟨A1,7,none⟩),.pointer (some ⟨A1,8,none⟩)], 174),(N,#[.int .i64 0,.int .i64 0,.string ByteArray.empty,.int .i64 0,.int .i64 0,.int .i64 0,.int .i64 0,.int .i64 0,.int .i64 0,.string ByteArray.empty,.slice none 0 0,.int .i64 0,.slice none 0 0,.slice none 0 0], 47)]))∨(z= .int .i64 6∧Hid (DcR w wr N A1 p bs #[.int .i64 (v0:Int),.int .i64 (v1:Int),.string zs,.int .i64 (v3:Int),.int .i64 (v4:Int),.int .i64 (v5:Int),.int .i64 (v6:Int),.int .i64 (v7:Int),.int .i64 (v8:Int),.string ByteArray.empty,.slice none 0 0,.int .i64 0,.slice none 0 0,.slice none 0 0] s9 [(PB,#[.pointer (some ⟨A1,3,none⟩),.pointer (some ⟨A1,4,none⟩),.pointer (some ⟨A1,5,none⟩),.pointer (some ⟨A1,6,none⟩),.pointer (some ⟨A1,7,none⟩),.pointer (some ⟨A1,8,none⟩)], 174),(N,#[.int .i64 0,.int .i64 0,.string ByteArray.empty,.int .i64 0,.int .i64 0,.int .i64 0,.int .i64 0,.int .i64 0,.int .i64 0,.string ByteArray.empty,.slice none 0 0,.int .i64 0,.slice none 0 0,.slice none 0 0], 47)]))) (fun z _=>(6 - intOf z).toNat)
 case atStart=>exact .inl ⟨rfl,HDY3⟩
 case round=>
  rcases hrel with ⟨rfl,HD⟩ | ⟨rfl,HD⟩ | ⟨rfl,HD⟩ | ⟨rfl,HD⟩ | ⟨rfl,HD⟩ | ⟨rfl,HD⟩ | ⟨rfl,HD⟩
  ·obtain ⟨g0,g1,g2,g3,g4,g5⟩:wr.cell? ⟨PB,0,none⟩=some (.pointer (some ⟨A1,3,none⟩))∧wr.cell? ⟨PB,1,none⟩=some (.pointer (some ⟨A1,4,none⟩))∧wr.cell? ⟨PB,2,none⟩=some (.pointer (some ⟨A1,5,none⟩))∧wr.cell? ⟨PB,3,none⟩=some (.pointer (some ⟨A1,6,none⟩))∧wr.cell? ⟨PB,4,none⟩=some (.pointer (some ⟨A1,7,none⟩))∧wr.cell? ⟨PB,5,none⟩=some (.pointer (some ⟨A1,8,none⟩)):=⟨(cell_of_row _ _ _ _ _ _ (HD.o.ls _ (List.mem_cons_self ..)).1).trans rfl,(cell_of_row _ _ _ _ _ _ (HD.o.ls _ (List.mem_cons_self ..)).1).trans rfl,(cell_of_row _ _ _ _ _ _ (HD.o.ls _ (List.mem_cons_self ..)).1).trans rfl,(cell_of_row _ _ _ _ _ _ (HD.o.ls _ (List.mem_cons_self ..)).1).trans rfl,(cell_of_row _ _ _ _ _ _ (HD.o.ls _ (List.mem_cons_self ..)).1).trans rfl,(cell_of_row _ _ _ _ _ _ (HD.o.ls _ (List.mem_cons_self ..)).1).trans rfl⟩
   go_wp2_with (first
    | (go_at_call 110
       (with_reducible refine (HU3.o _ HD.o.rd).mono ?_)
       rintro e w3 ⟨rfl,hrd,hch⟩
       have Hw3:=hid (HD.o.call hch hrd)
       clear hrd hch g0 g1 g2 g3 g4 g5
       obtain ⟨d0,d1,d2,d3,d4,d5,d6,d7,d8,d9,d10,d11,d12,d13⟩:=row14 Hw3.o.x1
       clear d0 d1 d2 d4 d5 d6 d7 d8 d9 d10 d11 d12 d13
       have fz: ∀i,w3.frozen? ⟨A1,i,none⟩=false:=fun i=>frozen_of_row _ _ _ _ _ Hw3.o.x1
       skip))
   have HD3:Hid (DcR w (w3.setCell ⟨A1,3,none⟩ (.int .i64 (v3:Int))) N A1 p bs #[.int .i64 (v0:Int),.int .i64 (v1:Int),.string zs,.int .i64 (v3:Int),.int .i64 0,.int .i64 0,.int .i64 0,.int .i64 0,.int .i64 0,.string ByteArray.empty,.slice none 0 0,.int .i64 0,.slice none 0 0,.slice none 0 0] s4 [(PB,#[.pointer (some ⟨A1,3,none⟩),.pointer (some ⟨A1,4,none⟩),.pointer (some ⟨A1,5,none⟩),.pointer (some ⟨A1,6,none⟩),.pointer (some ⟨A1,7,none⟩),.pointer (some ⟨A1,8,none⟩)], 174),(N,#[.int .i64 0,.int .i64 0,.string ByteArray.empty,.int .i64 0,.int .i64 0,.int .i64 0,.int .i64 0,.int .i64 0,.int .i64 0,.string ByteArray.empty,.slice none 0 0,.int .i64 0,.slice none 0 0,.slice none 0 0], 47)]):=hid (Hw3.o.put (no8_rc _ _ _ _ _ _ _ _ _ _ _ _ _ _ _ _ _ _ _ _) 3 _ (heap_setCell_same _ A1 3 _ _ _ Hw3.o.x1))
   go_roundw
   case rel=>exact .inr (.inl ⟨by first | rfl | go_num,HD3⟩)
   case measure=>simp [intOf]
  ·obtain ⟨g0,g1,g2,g3,g4,g5⟩:wr.cell? ⟨PB,0,none⟩=some (.pointer (some ⟨A1,3,none⟩))∧wr.cell? ⟨PB,1,none⟩=some (.pointer (some ⟨A1,4,none⟩))∧wr.cell? ⟨PB,2,none⟩=some (.pointer (some ⟨A1,5,none⟩))∧wr.cell? ⟨PB,3,none⟩=some (.pointer (some ⟨A1,6,none⟩))∧wr.cell? ⟨PB,4,none⟩=some (.pointer (some ⟨A1,7,none⟩))∧wr.cell? ⟨PB,5,none⟩=some (.pointer (some ⟨A1,8,none⟩)):=⟨(cell_of_row _ _ _ _ _ _ (HD.o.ls _ (List.mem_cons_self ..)).1).trans rfl,(cell_of_row _ _ _ _ _ _ (HD.o.ls _ (List.mem_cons_self ..)).1).trans rfl,(cell_of_row _ _ _ _ _ _ (HD.o.ls _ (List.mem_cons_self ..)).1).trans rfl,(cell_of_row _ _ _ _ _ _ (HD.o.ls _ (List.mem_cons_self ..)).1).trans rfl,(cell_of_row _ _ _ _ _ _ (HD.o.ls _ (List.mem_cons_self ..)).1).trans rfl,(cell_of_row _ _ _ _ _ _ (HD.o.ls _ (List.mem_cons_self ..)).1).trans rfl⟩
   go_wp2_with (first
    | (go_at_call 110
       (with_reducible refine (HU4.o _ HD.o.rd).mono ?_)
       rintro e w3 ⟨rfl,hrd,hch⟩
       have Hw3:=hid (HD.o.call hch hrd)
       clear hrd hch g0 g1 g2 g3 g4 g5
       obtain ⟨d0,d1,d2,d3,d4,d5,d6,d7,d8,d9,d10,d11,d12,d13⟩:=row14 Hw3.o.x1
       clear d0 d1 d2 d3 d5 d6 d7 d8 d9 d10 d11 d12 d13
       have fz: ∀i,w3.frozen? ⟨A1,i,none⟩=false:=fun i=>frozen_of_row _ _ _ _ _ Hw3.o.x1
       skip))
   have HD3:Hid (DcR w (w3.setCell ⟨A1,4,none⟩ (.int .i64 (v4:Int))) N A1 p bs #[.int .i64 (v0:Int),.int .i64 (v1:Int),.string zs,.int .i64 (v3:Int),.int .i64 (v4:Int),.int .i64 0,.int .i64 0,.int .i64 0,.int .i64 0,.string ByteArray.empty,.slice none 0 0,.int .i64 0,.slice none 0 0,.slice none 0 0] s5 [(PB,#[.pointer (some ⟨A1,3,none⟩),.pointer (some ⟨A1,4,none⟩),.pointer (some ⟨A1,5,none⟩),.pointer (some ⟨A1,6,none⟩),.pointer (some ⟨A1,7,none⟩),.pointer (some ⟨A1,8,none⟩)], 174),(N,#[.int .i64 0,.int .i64 0,.string ByteArray.empty,.int .i64 0,.int .i64 0,.int .i64 0,.int .i64 0,.int .i64 0,.int .i64 0,.string ByteArray.empty,.slice none 0 0,.int .i64 0,.slice none 0 0,.slice none 0 0], 47)]):=hid (Hw3.o.put (no8_rc _ _ _ _ _ _ _ _ _ _ _ _ _ _ _ _ _ _ _ _) 4 _ (heap_setCell_same _ A1 4 _ _ _ Hw3.o.x1))
   go_roundw
   case rel=>exact .inr (.inr (.inl ⟨by first | rfl | go_num,HD3⟩))
   case measure=>simp [intOf]
  ·obtain ⟨g0,g1,g2,g3,g4,g5⟩:wr.cell? ⟨PB,0,none⟩=some (.pointer (some ⟨A1,3,none⟩))∧wr.cell? ⟨PB,1,none⟩=some (.pointer (some ⟨A1,4,none⟩))∧wr.cell? ⟨PB,2,none⟩=some (.pointer (some ⟨A1,5,none⟩))∧wr.cell? ⟨PB,3,none⟩=some (.pointer (some ⟨A1,6,none⟩))∧wr.cell? ⟨PB,4,none⟩=some (.pointer (some ⟨A1,7,none⟩))∧wr.cell? ⟨PB,5,none⟩=some (.pointer (some ⟨A1,8,none⟩)):=⟨(cell_of_row _ _ _ _ _ _ (HD.o.ls _ (List.mem_cons_self ..)).1).trans rfl,(cell_of_row _ _ _ _ _ _ (HD.o.ls _ (List.mem_cons_self ..)).1).trans rfl,(cell_of_row _ _ _ _ _ _ (HD.o.ls _ (List.mem_cons_self ..)).1).trans rfl,(cell_of_row _ _ _ _ _ _ (HD.o.ls _ (List.mem_cons_self ..)).1).trans rfl,(cell_of_row _ _ _ _ _ _ (HD.o.ls _ (List.mem_cons_self ..)).1).trans rfl,(cell_of_row _ _ _ _ _ _ (HD.o.ls _ (List.mem_cons_self ..)).1).trans rfl⟩
   go_wp2_with (first
    | (go_at_call 110
       (with_reducible refine (HU5.o _ HD.o.rd).mono ?_)
       rintro e w3 ⟨rfl,hrd,hch⟩
       have Hw3:=hid (HD.o.call hch hrd)
       clear hrd hch g0 g1 g2 g3 g4 g5
       obtain ⟨d0,d1,d2,d3,d4,d5,d6,d7,d8,d9,d10,d11,d12,d13⟩:=row14 Hw3.o.x1
       clear d0 d1 d2 d3 d4 d6 d7 d8 d9 d10 d11 d12 d13
       have fz: ∀i,w3.frozen? ⟨A1,i,none⟩=false:=fun i=>frozen_of_row _ _ _ _ _ Hw3.o.x1
       skip))
   have HD3:Hid (DcR w (w3.setCell ⟨A1,5,none⟩ (.int .i64 (v5:Int))) N A1 p bs #[.int .i64 (v0:Int),.int .i64 (v1:Int),.string zs,.int .i64 (v3:Int),.int .i64 (v4:Int),.int .i64 (v5:Int),.int .i64 0,.int .i64 0,.int .i64 0,.string ByteArray.empty,.slice none 0 0,.int .i64 0,.slice none 0 0,.slice none 0 0] s6 [(PB,#[.pointer (some ⟨A1,3,none⟩),.pointer (some ⟨A1,4,none⟩),.pointer (some ⟨A1,5,none⟩),.pointer (some ⟨A1,6,none⟩),.pointer (some ⟨A1,7,none⟩),.pointer (some ⟨A1,8,none⟩)], 174),(N,#[.int .i64 0,.int .i64 0,.string ByteArray.empty,.int .i64 0,.int .i64 0,.int .i64 0,.int .i64 0,.int .i64 0,.int .i64 0,.string ByteArray.empty,.slice none 0 0,.int .i64 0,.slice none 0 0,.slice none 0 0], 47)]):=hid (Hw3.o.put (no8_rc _ _ _ _ _ _ _ _ _ _ _ _ _ _ _ _ _ _ _ _) 5 _ (heap_setCell_same _ A1 5 _ _ _ Hw3.o.x1))
   go_roundw
   case rel=>exact .inr (.inr (.inr (.inl ⟨by first | rfl | go_num,HD3⟩)))
   case measure=>simp [intOf]
  ·obtain ⟨g0,g1,g2,g3,g4,g5⟩:wr.cell? ⟨PB,0,none⟩=some (.pointer (some ⟨A1,3,none⟩))∧wr.cell? ⟨PB,1,none⟩=some (.pointer (some ⟨A1,4,none⟩))∧wr.cell? ⟨PB,2,none⟩=some (.pointer (some ⟨A1,5,none⟩))∧wr.cell? ⟨PB,3,none⟩=some (.pointer (some ⟨A1,6,none⟩))∧wr.cell? ⟨PB,4,none⟩=some (.pointer (some ⟨A1,7,none⟩))∧wr.cell? ⟨PB,5,none⟩=some (.pointer (some ⟨A1,8,none⟩)):=⟨(cell_of_row _ _ _ _ _ _ (HD.o.ls _ (List.mem_cons_self ..)).1).trans rfl,(cell_of_row _ _ _ _ _ _ (HD.o.ls _ (List.mem_cons_self ..)).1).trans rfl,(cell_of_row _ _ _ _ _ _ (HD.o.ls _ (List.mem_cons_self ..)).1).trans rfl,(cell_of_row _ _ _ _ _ _ (HD.o.ls _ (List.mem_cons_self ..)).1).trans rfl,(cell_of_row _ _ _ _ _ _ (HD.o.ls _ (List.mem_cons_self ..)).1).trans rfl,(cell_of_row _ _ _ _ _ _ (HD.o.ls _ (List.mem_cons_self ..)).1).trans rfl⟩
   go_wp2_with (first
    | (go_at_call 110
       (with_reducible refine (HU6.o _ HD.o.rd).mono ?_)
       rintro e w3 ⟨rfl,hrd,hch⟩
       have Hw3:=hid (HD.o.call hch hrd)
       clear hrd hch g0 g1 g2 g3 g4 g5
       obtain ⟨d0,d1,d2,d3,d4,d5,d6,d7,d8,d9,d10,d11,d12,d13⟩:=row14 Hw3.o.x1
       clear d0 d1 d2 d3 d4 d5 d7 d8 d9 d10 d11 d12 d13
       have fz: ∀i,w3.frozen? ⟨A1,i,none⟩=false:=fun i=>frozen_of_row _ _ _ _ _ Hw3.o.x1
       skip))
   have HD3:Hid (DcR w (w3.setCell ⟨A1,6,none⟩ (.int .i64 (v6:Int))) N A1 p bs #[.int .i64 (v0:Int),.int .i64 (v1:Int),.string zs,.int .i64 (v3:Int),.int .i64 (v4:Int),.int .i64 (v5:Int),.int .i64 (v6:Int),.int .i64 0,.int .i64 0,.string ByteArray.empty,.slice none 0 0,.int .i64 0,.slice none 0 0,.slice none 0 0] s7 [(PB,#[.pointer (some ⟨A1,3,none⟩),.pointer (some ⟨A1,4,none⟩),.pointer (some ⟨A1,5,none⟩),.pointer (some ⟨A1,6,none⟩),.pointer (some ⟨A1,7,none⟩),.pointer (some ⟨A1,8,none⟩)], 174),(N,#[.int .i64 0,.int .i64 0,.string ByteArray.empty,.int .i64 0,.int .i64 0,.int .i64 0,.int .i64 0,.int .i64 0,.int .i64 0,.string ByteArray.empty,.slice none 0 0,.int .i64 0,.slice none 0 0,.slice none 0 0], 47)]):=hid (Hw3.o.put (no8_rc _ _ _ _ _ _ _ _ _ _ _ _ _ _ _ _ _ _ _ _) 6 _ (heap_setCell_same _ A1 6 _ _ _ Hw3.o.x1))
   go_roundw
   case rel=>exact .inr (.inr (.inr (.inr (.inl ⟨by first | rfl | go_num,HD3⟩))))
   case measure=>simp [intOf]
  ·obtain ⟨g0,g1,g2,g3,g4,g5⟩:wr.cell? ⟨PB,0,none⟩=some (.pointer (some ⟨A1,3,none⟩))∧wr.cell? ⟨PB,1,none⟩=some (.pointer (some ⟨A1,4,none⟩))∧wr.cell? ⟨PB,2,none⟩=some (.pointer (some ⟨A1,5,none⟩))∧wr.cell? ⟨PB,3,none⟩=some (.pointer (some ⟨A1,6,none⟩))∧wr.cell? ⟨PB,4,none⟩=some (.pointer (some ⟨A1,7,none⟩))∧wr.cell? ⟨PB,5,none⟩=some (.pointer (some ⟨A1,8,none⟩)):=⟨(cell_of_row _ _ _ _ _ _ (HD.o.ls _ (List.mem_cons_self ..)).1).trans rfl,(cell_of_row _ _ _ _ _ _ (HD.o.ls _ (List.mem_cons_self ..)).1).trans rfl,(cell_of_row _ _ _ _ _ _ (HD.o.ls _ (List.mem_cons_self ..)).1).trans rfl,(cell_of_row _ _ _ _ _ _ (HD.o.ls _ (List.mem_cons_self ..)).1).trans rfl,(cell_of_row _ _ _ _ _ _ (HD.o.ls _ (List.mem_cons_self ..)).1).trans rfl,(cell_of_row _ _ _ _ _ _ (HD.o.ls _ (List.mem_cons_self ..)).1).trans rfl⟩
   go_wp2_with (first
    | (go_at_call 110
       (with_reducible refine (HU7.o _ HD.o.rd).mono ?_)
       rintro e w3 ⟨rfl,hrd,hch⟩
       have Hw3:=hid (HD.o.call hch hrd)
       clear hrd hch g0 g1 g2 g3 g4 g5
       obtain ⟨d0,d1,d2,d3,d4,d5,d6,d7,d8,d9,d10,d11,d12,d13⟩:=row14 Hw3.o.x1
       clear d0 d1 d2 d3 d4 d5 d6 d8 d9 d10 d11 d12 d13
       have fz: ∀i,w3.frozen? ⟨A1,i,none⟩=false:=fun i=>frozen_of_row _ _ _ _ _ Hw3.o.x1
       skip))
   have HD3:Hid (DcR w (w3.setCell ⟨A1,7,none⟩ (.int .i64 (v7:Int))) N A1 p bs #[.int .i64 (v0:Int),.int .i64 (v1:Int),.string zs,.int .i64 (v3:Int),.int .i64 (v4:Int),.int .i64 (v5:Int),.int .i64 (v6:Int),.int .i64 (v7:Int),.int .i64 0,.string ByteArray.empty,.slice none 0 0,.int .i64 0,.slice none 0 0,.slice none 0 0] s8 [(PB,#[.pointer (some ⟨A1,3,none⟩),.pointer (some ⟨A1,4,none⟩),.pointer (some ⟨A1,5,none⟩),.pointer (some ⟨A1,6,none⟩),.pointer (some ⟨A1,7,none⟩),.pointer (some ⟨A1,8,none⟩)], 174),(N,#[.int .i64 0,.int .i64 0,.string ByteArray.empty,.int .i64 0,.int .i64 0,.int .i64 0,.int .i64 0,.int .i64 0,.int .i64 0,.string ByteArray.empty,.slice none 0 0,.int .i64 0,.slice none 0 0,.slice none 0 0], 47)]):=hid (Hw3.o.put (no8_rc _ _ _ _ _ _ _ _ _ _ _ _ _ _ _ _ _ _ _ _) 7 _ (heap_setCell_same _ A1 7 _ _ _ Hw3.o.x1))
   go_roundw
   case rel=>exact .inr (.inr (.inr (.inr (.inr (.inl ⟨by first | rfl | go_num,HD3⟩)))))
   case measure=>simp [intOf]
  ·obtain ⟨g0,g1,g2,g3,g4,g5⟩:wr.cell? ⟨PB,0,none⟩=some (.pointer (some ⟨A1,3,none⟩))∧wr.cell? ⟨PB,1,none⟩=some (.pointer (some ⟨A1,4,none⟩))∧wr.cell? ⟨PB,2,none⟩=some (.pointer (some ⟨A1,5,none⟩))∧wr.cell? ⟨PB,3,none⟩=some (.pointer (some ⟨A1,6,none⟩))∧wr.cell? ⟨PB,4,none⟩=some (.pointer (some ⟨A1,7,none⟩))∧wr.cell? ⟨PB,5,none⟩=some (.pointer (some ⟨A1,8,none⟩)):=⟨(cell_of_row _ _ _ _ _ _ (HD.o.ls _ (List.mem_cons_self ..)).1).trans rfl,(cell_of_row _ _ _ _ _ _ (HD.o.ls _ (List.mem_cons_self ..)).1).trans rfl,(cell_of_row _ _ _ _ _ _ (HD.o.ls _ (List.mem_cons_self ..)).1).trans rfl,(cell_of_row _ _ _ _ _ _ (HD.o.ls _ (List.mem_cons_self ..)).1).trans rfl,(cell_of_row _ _ _ _ _ _ (HD.o.ls _ (List.mem_cons_self ..)).1).trans rfl,(cell_of_row _ _ _ _ _ _ (HD.o.ls _ (List.mem_cons_self ..)).1).trans rfl⟩
   go_wp2_with (first
    | (go_at_call 110
       (with_reducible refine (HU8.o _ HD.o.rd).mono ?_)
       rintro e w3 ⟨rfl,hrd,hch⟩
       have Hw3:=hid (HD.o.call hch hrd)
       clear hrd hch g0 g1 g2 g3 g4 g5
       obtain ⟨d0,d1,d2,d3,d4,d5,d6,d7,d8,d9,d10,d11,d12,d13⟩:=row14 Hw3.o.x1
       clear d0 d1 d2 d3 d4 d5 d6 d7 d9 d10 d11 d12 d13
       have fz: ∀i,w3.frozen? ⟨A1,i,none⟩=false:=fun i=>frozen_of_row _ _ _ _ _ Hw3.o.x1
       skip))
   have HD3:Hid (DcR w (w3.setCell ⟨A1,8,none⟩ (.int .i64 (v8:Int))) N A1 p bs #[.int .i64 (v0:Int),.int .i64 (v1:Int),.string zs,.int .i64 (v3:Int),.int .i64 (v4:Int),.int .i64 (v5:Int),.int .i64 (v6:Int),.int .i64 (v7:Int),.int .i64 (v8:Int),.string ByteArray.empty,.slice none 0 0,.int .i64 0,.slice none 0 0,.slice none 0 0] s9 [(PB,#[.pointer (some ⟨A1,3,none⟩),.pointer (some ⟨A1,4,none⟩),.pointer (some ⟨A1,5,none⟩),.pointer (some ⟨A1,6,none⟩),.pointer (some ⟨A1,7,none⟩),.pointer (some ⟨A1,8,none⟩)], 174),(N,#[.int .i64 0,.int .i64 0,.string ByteArray.empty,.int .i64 0,.int .i64 0,.int .i64 0,.int .i64 0,.int .i64 0,.int .i64 0,.string ByteArray.empty,.slice none 0 0,.int .i64 0,.slice none 0 0,.slice none 0 0], 47)]):=hid (Hw3.o.put (no8_rc _ _ _ _ _ _ _ _ _ _ _ _ _ _ _ _ _ _ _ _) 8 _ (heap_setCell_same _ A1 8 _ _ _ Hw3.o.x1))
   go_roundw
   case rel=>exact .inr (.inr (.inr (.inr (.inr (.inr (⟨by first | rfl | go_num,HD3⟩))))))
   case measure=>simp [intOf]
  ·go_upto_region 11 with (first
      | (go_at_call 112
         (with_reducible refine (HU9.o _ HD.o.ord.2.2 HD.o.rd).mono ?_)
         rintro e w3 ⟨b1,L1,rfl,hb,hL,hl,hg,hrd,hch⟩
         have HBb1:Hid (p<b1∧b1≠N∧l1.length=L1∧L1≤300):=hid (by have:=HD.o.ord;have:=HNA.o;exact ⟨by omega,by omega,hl,by omega⟩)
         have Hw3:Hid (DcR w w3 N A1 p bs #[.int .i64 (v0:Int),.int .i64 (v1:Int),.string zs,.int .i64 (v3:Int),.int .i64 (v4:Int),.int .i64 (v5:Int),.int .i64 (v6:Int),.int .i64 (v7:Int),.int .i64 (v8:Int),.string ByteArray.empty,.slice none 0 0,.int .i64 0,.slice none 0 0,.slice none 0 0] s10 [(b1,(strV (l1.map strB)).toArray,9),(PB,#[.pointer (some ⟨A1,3,none⟩),.pointer (some ⟨A1,4,none⟩),.pointer (some ⟨A1,5,none⟩),.pointer (some ⟨A1,6,none⟩),.pointer (some ⟨A1,7,none⟩),.pointer (some ⟨A1,8,none⟩)], 174),(N,#[.int .i64 0,.int .i64 0,.string ByteArray.empty,.int .i64 0,.int .i64 0,.int .i64 0,.int .i64 0,.int .i64 0,.int .i64 0,.string ByteArray.empty,.slice none 0 0,.int .i64 0,.slice none 0 0,.slice none 0 0], 47)]):=hid ((HD.o.call hch hrd).more hg (by have:=HBb1.o;omega) (by have:=HBb1.o;have:=HD.o.ord;omega))
         clear hb hL hl hg hrd hch 
         obtain ⟨d0,d1,d2,d3,d4,d5,d6,d7,d8,d9,d10,d11,d12,d13⟩:=row14 Hw3.o.x1
         clear d0 d1 d2 d3 d4 d5 d6 d7 d8 d9 d11 d12 d13
         have fz: ∀i,w3.frozen? ⟨A1,i,none⟩=false:=fun i=>frozen_of_row _ _ _ _ _ Hw3.o.x1
         skip))
   clear d10 fz
   refine wp_over (fun V=>Hid (DcR w V N A1 p bs #[.int .i64 (v0:Int),.int .i64 (v1:Int),.string zs,.int .i64 (v3:Int),.int .i64 (v4:Int),.int .i64 (v5:Int),.int .i64 (v6:Int),.int .i64 (v7:Int),.int .i64 (v8:Int),.string ByteArray.empty,.slice (some ⟨b1,0,none⟩) L1 L1,.int .i64 0,.slice none 0 0,.slice none 0 0] s10 [(b1,(strV (l1.map strB)).toArray,9),(PB,#[.pointer (some ⟨A1,3,none⟩),.pointer (some ⟨A1,4,none⟩),.pointer (some ⟨A1,5,none⟩),.pointer (some ⟨A1,6,none⟩),.pointer (some ⟨A1,7,none⟩),.pointer (some ⟨A1,8,none⟩)], 174),(N,#[.int .i64 0,.int .i64 0,.string ByteArray.empty,.int .i64 0,.int .i64 0,.int .i64 0,.int .i64 0,.int .i64 0,.int .i64 0,.string ByteArray.empty,.slice none 0 0,.int .i64 0,.slice none 0 0,.slice none 0 0], 47)])) (hid ((Hw3.o).put (no8_rc _ _ _ _ _ _ _ _ _ _ _ _ _ _ _ _ _ _ _ _) 10 _ (heap_setCell_same _ A1 10 _ _ _ (Hw3.o).x1))) ?_
   rintro Y4 HDY4
   go_upto_region 12 with (first
    | (go_at_call 111
       (with_reducible refine (HU10.o _ HDY4.o.rd).mono ?_)
       rintro e w4 ⟨rfl,hrd,hch⟩
       have Hw4:=hid (HDY4.o.call hch hrd)
       clear hrd hch
       obtain ⟨d0,d1,d2,d3,d4,d5,d6,d7,d8,d9,d10,d11,d12,d13⟩:=row14 Hw4.o.x1
       clear d0 d1 d2 d3 d4 d5 d6 d7 d8 d10 d11 d12 d13
       have fz: ∀i,w4.frozen? ⟨A1,i,none⟩=false:=fun i=>frozen_of_row _ _ _ _ _ Hw4.o.x1
       skip))
   clear d9 fz
   refine wp_over (fun V=>Hid (DcR w V N A1 p bs #[.int .i64 (v0:Int),.int .i64 (v1:Int),.string zs,.int .i64 (v3:Int),.int .i64 (v4:Int),.int .i64 (v5:Int),.int .i64 (v6:Int),.int .i64 (v7:Int),.int .i64 (v8:Int),.string zr,.slice (some ⟨b1,0,none⟩) L1 L1,.int .i64 0,.slice none 0 0,.slice none 0 0] s11 [(b1,(strV (l1.map strB)).toArray,9),(PB,#[.pointer (some ⟨A1,3,none⟩),.pointer (some ⟨A1,4,none⟩),.pointer (some ⟨A1,5,none⟩),.pointer (some ⟨A1,6,none⟩),.pointer (some ⟨A1,7,none⟩),.pointer (some ⟨A1,8,none⟩)], 174),(N,#[.int .i64 0,.int .i64 0,.string ByteArray.empty,.int .i64 0,.int .i64 0,.int .i64 0,.int .i64 0,.int .i64 0,.int .i64 0,.string ByteArray.empty,.slice none 0 0,.int .i64 0,.slice none 0 0,.slice none 0 0], 47)])) (hid ((Hw4.o).put (no8_rc _ _ _ _ _ _ _ _ _ _ _ _ _ _ _ _ _ _ _ _) 9 _ (heap_setCell_same _ A1 9 _ _ _ (Hw4.o).x1))) ?_
   rintro Y5 HDY5
   go_upto_region 13 with (first
    | (go_at_call 110
       (with_reducible refine (HU11.o _ HDY5.o.rd).mono ?_)
       rintro e w5 ⟨rfl,hrd,hch⟩
       have Hw5:=hid (HDY5.o.call hch hrd)
       clear hrd hch
       obtain ⟨d0,d1,d2,d3,d4,d5,d6,d7,d8,d9,d10,d11,d12,d13⟩:=row14 Hw5.o.x1
       clear d0 d1 d2 d3 d4 d5 d6 d7 d8 d9 d10 d12 d13
       have fz: ∀i,w5.frozen? ⟨A1,i,none⟩=false:=fun i=>frozen_of_row _ _ _ _ _ Hw5.o.x1
       skip))
   clear d11 fz
   refine wp_over (fun V=>Hid (DcR w V N A1 p bs #[.int .i64 (v0:Int),.int .i64 (v1:Int),.string zs,.int .i64 (v3:Int),.int .i64 (v4:Int),.int .i64 (v5:Int),.int .i64 (v6:Int),.int .i64 (v7:Int),.int .i64 (v8:Int),.string zr,.slice (some ⟨b1,0,none⟩) L1 L1,.int .i64 (vi:Int),.slice none 0 0,.slice none 0 0] s12 [(b1,(strV (l1.map strB)).toArray,9),(PB,#[.pointer (some ⟨A1,3,none⟩),.pointer (some ⟨A1,4,none⟩),.pointer (some ⟨A1,5,none⟩),.pointer (some ⟨A1,6,none⟩),.pointer (some ⟨A1,7,none⟩),.pointer (some ⟨A1,8,none⟩)], 174),(N,#[.int .i64 0,.int .i64 0,.string ByteArray.empty,.int .i64 0,.int .i64 0,.int .i64 0,.int .i64 0,.int .i64 0,.int .i64 0,.string ByteArray.empty,.slice none 0 0,.int .i64 0,.slice none 0 0,.slice none 0 0], 47)])) (hid ((Hw5.o).put (no8_rc _ _ _ _ _ _ _ _ _ _ _ _ _ _ _ _ _ _ _ _) 11 _ (heap_setCell_same _ A1 11 _ _ _ (Hw5.o).x1))) ?_
   rintro Y6 HDY6
   go_upto_region 14 with (first
    | (go_at_call 112
       (with_reducible refine (HU12.o _ HDY6.o.ord.2.2 HDY6.o.rd).mono ?_)
       rintro e w6 ⟨b2,L2,rfl,hb,hL,hl,hg,hrd,hch⟩
       have HBb2:Hid (p<b2∧b2≠N∧l2.length=L2∧L2≤300):=hid (by have:=HDY6.o.ord;have:=HNA.o;exact ⟨by omega,by omega,hl,by omega⟩)
       have Hw6:Hid (DcR w w6 N A1 p bs #[.int .i64 (v0:Int),.int .i64 (v1:Int),.string zs,.int .i64 (v3:Int),.int .i64 (v4:Int),.int .i64 (v5:Int),.int .i64 (v6:Int),.int .i64 (v7:Int),.int .i64 (v8:Int),.string zr,.slice (some ⟨b1,0,none⟩) L1 L1,.int .i64 (vi:Int),.slice none 0 0,.slice none 0 0] s13 [(b2,(strV (l2.map strB)).toArray,9),(b1,(strV (l1.map strB)).toArray,9),(PB,#[.pointer (some ⟨A1,3,none⟩),.pointer (some ⟨A1,4,none⟩),.pointer (some ⟨A1,5,none⟩),.pointer (some ⟨A1,6,none⟩),.pointer (some ⟨A1,7,none⟩),.pointer (some ⟨A1,8,none⟩)], 174),(N,#[.int .i64 0,.int .i64 0,.string ByteArray.empty,.int .i64 0,.int .i64 0,.int .i64 0,.int .i64 0,.int .i64 0,.int .i64 0,.string ByteArray.empty,.slice none 0 0,.int .i64 0,.slice none 0 0,.slice none 0 0], 47)]):=hid ((HDY6.o.call hch hrd).more hg (by have:=HBb2.o;omega) (by have:=HBb2.o;have:=HDY6.o.ord;omega))
       clear hb hL hl hg hrd hch 
       obtain ⟨d0,d1,d2,d3,d4,d5,d6,d7,d8,d9,d10,d11,d12,d13⟩:=row14 Hw6.o.x1
       clear d0 d1 d2 d3 d4 d5 d6 d7 d8 d9 d10 d11 d13
       have fz: ∀i,w6.frozen? ⟨A1,i,none⟩=false:=fun i=>frozen_of_row _ _ _ _ _ Hw6.o.x1
       skip))
   clear d12 fz
   refine wp_over (fun V=>Hid (DcR w V N A1 p bs #[.int .i64 (v0:Int),.int .i64 (v1:Int),.string zs,.int .i64 (v3:Int),.int .i64 (v4:Int),.int .i64 (v5:Int),.int .i64 (v6:Int),.int .i64 (v7:Int),.int .i64 (v8:Int),.string zr,.slice (some ⟨b1,0,none⟩) L1 L1,.int .i64 (vi:Int),.slice (some ⟨b2,0,none⟩) L2 L2,.slice none 0 0] s13 [(b2,(strV (l2.map strB)).toArray,9),(b1,(strV (l1.map strB)).toArray,9),(PB,#[.pointer (some ⟨A1,3,none⟩),.pointer (some ⟨A1,4,none⟩),.pointer (some ⟨A1,5,none⟩),.pointer (some ⟨A1,6,none⟩),.pointer (some ⟨A1,7,none⟩),.pointer (some ⟨A1,8,none⟩)], 174),(N,#[.int .i64 0,.int .i64 0,.string ByteArray.empty,.int .i64 0,.int .i64 0,.int .i64 0,.int .i64 0,.int .i64 0,.int .i64 0,.string ByteArray.empty,.slice none 0 0,.int .i64 0,.slice none 0 0,.slice none 0 0], 47)])) (hid ((Hw6.o).put (no8_rc _ _ _ _ _ _ _ _ _ _ _ _ _ _ _ _ _ _ _ _) 12 _ (heap_setCell_same _ A1 12 _ _ _ (Hw6.o).x1))) ?_
   rintro Y7 HDY7
   go_upto_region 15 with (first
    | (go_at_call 112
       (with_reducible refine (HU13.o _ HDY7.o.ord.2.2 HDY7.o.rd).mono ?_)
       rintro e w7 ⟨b3,L3,rfl,hb,hL,hl,hg,hrd,hch⟩
       have HBb3:Hid (p<b3∧b3≠N∧l3.length=L3∧L3≤300):=hid (by have:=HDY7.o.ord;have:=HNA.o;exact ⟨by omega,by omega,hl,by omega⟩)
       have Hw7:Hid (DcR w w7 N A1 p bs #[.int .i64 (v0:Int),.int .i64 (v1:Int),.string zs,.int .i64 (v3:Int),.int .i64 (v4:Int),.int .i64 (v5:Int),.int .i64 (v6:Int),.int .i64 (v7:Int),.int .i64 (v8:Int),.string zr,.slice (some ⟨b1,0,none⟩) L1 L1,.int .i64 (vi:Int),.slice (some ⟨b2,0,none⟩) L2 L2,.slice none 0 0] s14 [(b3,(strV (l3.map strB)).toArray,9),(b2,(strV (l2.map strB)).toArray,9),(b1,(strV (l1.map strB)).toArray,9),(PB,#[.pointer (some ⟨A1,3,none⟩),.pointer (some ⟨A1,4,none⟩),.pointer (some ⟨A1,5,none⟩),.pointer (some ⟨A1,6,none⟩),.pointer (some ⟨A1,7,none⟩),.pointer (some ⟨A1,8,none⟩)], 174),(N,#[.int .i64 0,.int .i64 0,.string ByteArray.empty,.int .i64 0,.int .i64 0,.int .i64 0,.int .i64 0,.int .i64 0,.int .i64 0,.string ByteArray.empty,.slice none 0 0,.int .i64 0,.slice none 0 0,.slice none 0 0], 47)]):=hid ((HDY7.o.call hch hrd).more hg (by have:=HBb3.o;omega) (by have:=HBb3.o;have:=HDY7.o.ord;omega))
       clear hb hL hl hg hrd hch 
       obtain ⟨d0,d1,d2,d3,d4,d5,d6,d7,d8,d9,d10,d11,d12,d13⟩:=row14 Hw7.o.x1
       clear d0 d1 d2 d3 d4 d5 d6 d7 d8 d9 d10 d11 d12
       have fz: ∀i,w7.frozen? ⟨A1,i,none⟩=false:=fun i=>frozen_of_row _ _ _ _ _ Hw7.o.x1
       skip))
   clear d13 fz
   refine wp_over (fun V=>Hid (DcR w V N A1 p bs #[.int .i64 (v0:Int),.int .i64 (v1:Int),.string zs,.int .i64 (v3:Int),.int .i64 (v4:Int),.int .i64 (v5:Int),.int .i64 (v6:Int),.int .i64 (v7:Int),.int .i64 (v8:Int),.string zr,.slice (some ⟨b1,0,none⟩) L1 L1,.int .i64 (vi:Int),.slice (some ⟨b2,0,none⟩) L2 L2,.slice (some ⟨b3,0,none⟩) L3 L3] s14 [(b3,(strV (l3.map strB)).toArray,9),(b2,(strV (l2.map strB)).toArray,9),(b1,(strV (l1.map strB)).toArray,9),(PB,#[.pointer (some ⟨A1,3,none⟩),.pointer (some ⟨A1,4,none⟩),.pointer (some ⟨A1,5,none⟩),.pointer (some ⟨A1,6,none⟩),.pointer (some ⟨A1,7,none⟩),.pointer (some ⟨A1,8,none⟩)], 174),(N,#[.int .i64 0,.int .i64 0,.string ByteArray.empty,.int .i64 0,.int .i64 0,.int .i64 0,.int .i64 0,.int .i64 0,.int .i64 0,.string ByteArray.empty,.slice none 0 0,.int .i64 0,.slice none 0 0,.slice none 0 0], 47)])) (hid ((Hw7.o).put (no8_rc _ _ _ _ _ _ _ _ _ _ _ _ _ _ _ _ _ _ _ _) 13 _ (heap_setCell_same _ A1 13 _ _ _ (Hw7.o).x1))) ?_
   rintro Y8 HDY8
   have HEN:=hid (end_any p bs s14 HLB.o Y8 HDY8.o.rd)
   go_upto_region 16 with (first
    | (go_at_call 113
       (with_reducible refine HEN.o.mono ?_)
       rintro e w8 ⟨⟨x,er,rfl,hiff⟩,h8⟩
       have HIFF:=hid hiff
       have HD8:=hid (HDY8.o.later h8)
       clear hiff h8))
   clear HEN HDY4 HDY5 HDY6 HDY7 HDY8 Hw3 Hw4 Hw5 Hw6 Hw7 HD
   obtain ⟨d0,d1,d2,d3,d4,d5,d6,d7,d8,d9,d10,d11,d12,d13⟩:=row14 HD8.o.x1
   have HZN:Hid (∀V,Below w8.heap.size w8 V→V.heap[N]? =some (.cells #[.int .i64 0,.int .i64 0,.string ByteArray.empty,.int .i64 0,.int .i64 0,.int .i64 0,.int .i64 0,.int .i64 0,.int .i64 0,.string ByteArray.empty,.slice none 0 0,.int .i64 0,.slice none 0 0,.slice none 0 0] 47 (0,0))):=hid (fun V h=>((HD8.o.later h).ls (N,#[.int .i64 0,.int .i64 0,.string ByteArray.empty,.int .i64 0,.int .i64 0,.int .i64 0,.int .i64 0,.int .i64 0,.int .i64 0,.string ByteArray.empty,.slice none 0 0,.int .i64 0,.slice none 0 0,.slice none 0 0], 47) (by simp)).1)
   obtain ⟨g0,g1,g2,g3,g4,g5,g6,g7,g8,g9,g10,g11,g12,g13⟩:=row14 (HZN.o _ (Below.refl _ _))
   have gf: ∀i,w8.frozen? ⟨N,i,none⟩=false:=fun i=>frozen_of_row _ _ _ _ _ (HZN.o _ (Below.refl _ _))
   have HRC:Hid (rcOf (v0,v1,xs,v3,v4,v5,v6,v7,v8,l1,xr,vi,l2,l3)=⟨(v0:Int),(v1:Int),zs,(v3:Int),(v4:Int),(v5:Int),(v6:Int),(v7:Int),(v8:Int),zr,l1.map strB,(vi:Int),l2.map strB,l3.map strB⟩):=hid (by unfold rcOf;simp only [HZS.o,HZR.o])
   by_cases her:er=0
   rotate_left
   ·have hb:(er != 0)=true:=by rw [bne_iff_ne];exact her
    have HNO:Hid (¬s14=some []):=hid (fun h=>her (HIFF.o.2 h))
    clear her
    go_wp2_with fail
    refine bodyPost_ret (results_cell_row_tmp (p:=2) (u:=3) rfl _ _ N 47 #[.int .i64 0,.int .i64 0,.string ByteArray.empty,.int .i64 0,.int .i64 0,.int .i64 0,.int .i64 0,.int .i64 0,.int .i64 0,.string ByteArray.empty,.slice none 0 0,.int .i64 0,.slice none 0 0,.slice none 0 0] (0,0) _ (by rfl) (putL_full (cur:=[.int .i64 0,.int .i64 0,.string ByteArray.empty,.int .i64 0,.int .i64 0,.int .i64 0,.int .i64 0,.int .i64 0,.int .i64 0,.string ByteArray.empty,.slice none 0 0,.int .i64 0,.slice none 0 0,.slice none 0 0]) (vs:=[.int .i64 0,.int .i64 0,.string ByteArray.empty,.int .i64 0,.int .i64 0,.int .i64 0,.int .i64 0,.int .i64 0,.int .i64 0,.string ByteArray.empty,.slice none 0 0,.int .i64 0,.slice none 0 0,.slice none 0 0]) (HZN.o _ (Below.refl _ _)) rfl) Tryz.underlying47 rfl (by kernel_rfl)) rfl ?_
    exact ⟨.inr ⟨fun h=>HNO.o h.1,rfl⟩,by rw [HN.o];exact putL_below (Nat.le_refl N) [.int .i64 0,.int .i64 0,.string ByteArray.empty,.int .i64 0,.int .i64 0,.int .i64 0,.int .i64 0,.int .i64 0,.int .i64 0,.string ByteArray.empty,.slice none 0 0,.int .i64 0,.slice none 0 0,.slice none 0 0] 0 _ HD8.o.bel⟩
   subst her
   have HYES:Hid (s14=some []):=hid (HIFF.o.1 rfl)
   have HLS:Hid (StrsAt w8 (some ⟨b1,0,none⟩) (l1.map strB)∧StrsAt w8 (some ⟨b2,0,none⟩) (l2.map strB)∧StrsAt w8 (some ⟨b3,0,none⟩) (l3.map strB)):=hid ⟨strs_of_row (HD8.o.ls (b1,(strV (l1.map strB)).toArray,9) (by simp)).1,strs_of_row (HD8.o.ls (b2,(strV (l2.map strB)).toArray,9) (by simp)).1,strs_of_row (HD8.o.ls (b3,(strV (l3.map strB)).toArray,9) (by simp)).1⟩
   have HLEN:Hid ((l1.map strB).length=L1∧L1<9223372036854775808∧(l2.map strB).length=L2∧L2<9223372036854775808∧(l3.map strB).length=L3∧L3<9223372036854775808):=hid (by
    simp only [List.length_map]
    have:=HBb1.o;have:=HBb2.o;have:=HBb3.o
    omega)
   have HVA:=hid (validR_any (v0:Int) (v1:Int) zs (v3:Int) (v4:Int) (v5:Int) (v6:Int) (v7:Int) (v8:Int) zr (some ⟨b1,0,none⟩) L1 L1 (vi:Int) (some ⟨b2,0,none⟩) L2 L2 (some ⟨b3,0,none⟩) L3 L3 (l1.map strB) (l2.map strB) (l3.map strB) w8 HLEN.o.1 HLEN.o.2.1 HLS.o.1 HLEN.o.2.2.1 HLEN.o.2.2.2.1 HLS.o.2.1 HLEN.o.2.2.2.2.1 HLEN.o.2.2.2.2.2 HLS.o.2.2)
   rw [← HRC.o] at HVA
   obtain ⟨B,hB⟩:=ex_eq (validR (rcOf (v0,v1,xs,v3,v4,v5,v6,v7,v8,l1,xr,vi,l2,l3)))
   rw [hB] at HVA
   have HBV:=hid hB
   clear hB
   cases B
   ·go_wp2_with (first
       | (go_at_call 101
          (with_reducible refine HVA.o.mono ?_)
          rintro e w9 ⟨rfl,h9⟩
          have HD9:=hid (HD8.o.later h9)
          have HZ9:=hid (HZN.o _ h9)
          clear h9 d0 d1 d2 d3 d4 d5 d6 d7 d8 d9 d10 d11 d12 d13 g0 g1 g2 g3 g4 g5 g6 g7 g8 g9 g10 g11 g12 g13 gf
          obtain ⟨g0,g1,g2,g3,g4,g5,g6,g7,g8,g9,g10,g11,g12,g13⟩:=row14 HZ9.o
          have gf: ∀i,w9.frozen? ⟨N,i,none⟩=false:=fun i=>frozen_of_row _ _ _ _ _ HZ9.o))
    refine bodyPost_ret (results_cell_row_tmp (p:=2) (u:=3) rfl _ _ N 47 #[.int .i64 0,.int .i64 0,.string ByteArray.empty,.int .i64 0,.int .i64 0,.int .i64 0,.int .i64 0,.int .i64 0,.int .i64 0,.string ByteArray.empty,.slice none 0 0,.int .i64 0,.slice none 0 0,.slice none 0 0] (0,0) _ (by rfl) (putL_full (cur:=[.int .i64 0,.int .i64 0,.string ByteArray.empty,.int .i64 0,.int .i64 0,.int .i64 0,.int .i64 0,.int .i64 0,.int .i64 0,.string ByteArray.empty,.slice none 0 0,.int .i64 0,.slice none 0 0,.slice none 0 0]) (vs:=[.int .i64 0,.int .i64 0,.string ByteArray.empty,.int .i64 0,.int .i64 0,.int .i64 0,.int .i64 0,.int .i64 0,.int .i64 0,.string ByteArray.empty,.slice none 0 0,.int .i64 0,.slice none 0 0,.slice none 0 0]) HZ9.o rfl) Tryz.underlying47 rfl (by kernel_rfl)) rfl ?_
    exact ⟨.inr ⟨fun h=>(by have h1:=h.2;rw [HBV.o] at h1;cases h1),rfl⟩,by rw [HN.o];exact putL_below (Nat.le_refl N) [.int .i64 0,.int .i64 0,.string ByteArray.empty,.int .i64 0,.int .i64 0,.int .i64 0,.int .i64 0,.int .i64 0,.int .i64 0,.string ByteArray.empty,.slice none 0 0,.int .i64 0,.slice none 0 0,.slice none 0 0] 0 _ HD9.o.bel⟩
   ·go_wp2_with (first
       | (go_at_call 101
          (with_reducible refine HVA.o.mono ?_)
          rintro e w9 ⟨rfl,h9⟩
          have HD9:=hid (HD8.o.later h9)
          have HZ9:=hid (HZN.o _ h9)
          have HLS9:=hid (And.intro (HLS.o.1.later h9) (And.intro (HLS.o.2.1.later h9) (HLS.o.2.2.later h9)))
          clear h9 d0 d1 d2 d3 d4 d5 d6 d7 d8 d9 d10 d11 d12 d13 g0 g1 g2 g3 g4 g5 g6 g7 g8 g9 g10 g11 g12 g13 gf
          obtain ⟨d0,d1,d2,d3,d4,d5,d6,d7,d8,d9,d10,d11,d12,d13⟩:=row14 HD9.o.x1
          obtain ⟨g0,g1,g2,g3,g4,g5,g6,g7,g8,g9,g10,g11,g12,g13⟩:=row14 HZ9.o
          have gf: ∀i,w9.frozen? ⟨N,i,none⟩=false:=fun i=>frozen_of_row _ _ _ _ _ HZ9.o))
    refine bodyPost_ret (results_cell_row_tmp (p:=2) (u:=3) rfl _ _ N 47 #[.int .i64 (v0:Int),.int .i64 (v1:Int),.string zs,.int .i64 (v3:Int),.int .i64 (v4:Int),.int .i64 (v5:Int),.int .i64 (v6:Int),.int .i64 (v7:Int),.int .i64 (v8:Int),.string zr,.slice (some ⟨b1,0,none⟩) L1 L1,.int .i64 (vi:Int),.slice (some ⟨b2,0,none⟩) L2 L2,.slice (some ⟨b3,0,none⟩) L3 L3] (0,0) _ (by rfl) (putL_full (cur:=[.int .i64 0,.int .i64 0,.string ByteArray.empty,.int .i64 0,.int .i64 0,.int .i64 0,.int .i64 0,.int .i64 0,.int .i64 0,.string ByteArray.empty,.slice none 0 0,.int .i64 0,.slice none 0 0,.slice none 0 0]) (vs:=[.int .i64 (v0:Int),.int .i64 (v1:Int),.string zs,.int .i64 (v3:Int),.int .i64 (v4:Int),.int .i64 (v5:Int),.int .i64 (v6:Int),.int .i64 (v7:Int),.int .i64 (v8:Int),.string zr,.slice (some ⟨b1,0,none⟩) L1 L1,.int .i64 (vi:Int),.slice (some ⟨b2,0,none⟩) L2 L2,.slice (some ⟨b3,0,none⟩) L3 L3]) HZ9.o rfl) Tryz.underlying47 rfl (by kernel_rfl)) rfl ?_
    have hch:Chg (fun q _=>q=N) w9 (putL N 0 [.int .i64 (v0:Int),.int .i64 (v1:Int),.string zs,.int .i64 (v3:Int),.int .i64 (v4:Int),.int .i64 (v5:Int),.int .i64 (v6:Int),.int .i64 (v7:Int),.int .i64 (v8:Int),.string zr,.slice (some ⟨b1,0,none⟩) L1 L1,.int .i64 (vi:Int),.slice (some ⟨b2,0,none⟩) L2 L2,.slice (some ⟨b3,0,none⟩) L3 L3] w9):=putL_chg (fun _=>rfl) _ 0 w9 (Chg.refl _ _)
    refine ⟨.inl ⟨HYES.o,HBV.o,⟨rcOf (v0,v1,xs,v3,v4,v5,v6,v7,v8,l1,xr,vi,l2,l3),some ⟨b1,0,none⟩,L1,some ⟨b2,0,none⟩,L2,some ⟨b3,0,none⟩,L3⟩,rfl,?_,?_⟩,by rw [HN.o];exact putL_below (Nat.le_refl N) [.int .i64 (v0:Int),.int .i64 (v1:Int),.string zs,.int .i64 (v3:Int),.int .i64 (v4:Int),.int .i64 (v5:Int),.int .i64 (v6:Int),.int .i64 (v7:Int),.int .i64 (v8:Int),.string zr,.slice (some ⟨b1,0,none⟩) L1 L1,.int .i64 (vi:Int),.slice (some ⟨b2,0,none⟩) L2 L2,.slice (some ⟨b3,0,none⟩) L3 L3] 0 _ HD9.o.bel⟩
    ·have k1:=HLEN.o
     simp only [List.length_map] at k1
     refine ⟨?_,?_,?_,HLS9.o.1.keep hch (fun ad e _ i hm=> ?_),HLS9.o.2.1.keep hch (fun ad e _ i hm=> ?_),HLS9.o.2.2.keep hch (fun ad e _ i hm=> ?_)⟩
     ·show (l1.map strB).length<9223372036854775808
      rw [List.length_map];omega
     ·show (l2.map strB).length<9223372036854775808
      rw [List.length_map];omega
     ·show (l3.map strB).length<9223372036854775808
      rw [List.length_map];omega
     ·cases e;exact HBb1.o.2.1 hm
     ·cases e;exact HBb2.o.2.1 hm
     ·cases e;exact HBb3.o.2.1 hm
    ·simp only [RcV.cells,HRC.o,HLEN.o.1,HLEN.o.2.2.1,HLEN.o.2.2.2.2.1]
     rfl
end Go.Proofs.YtndlihclgdkpaaaGreatDoor
