/- gossip.Decode, walked. -/
import Derived.Test.YtmeimbnfgdnlbaaGreatDoorRde
set_option linter.unusedVariables false
set_option linter.unusedSimpArgs false
open Go.Lib (hid)
namespace Go.Proofs.YtmeimbnfgdnlbaaGreatDoor
open Go.RowKit
open Kit (Chg)
open Sha (v)
open Go.Proofs.YtmeimbnfgdnlbaaGreatDoor.One

def DecOut (X:EntRd) (e:Ending) (w':World):Prop:=
 (X.st=some []∧validE X.ent=true∧ ∃(ab:Option Addr) (L cb:Nat),e= .returned (.tuple #[.agg #[.int .i64 (X.d:Int),.int .i64 (X.q:Int),.int .i64 (X.k:Int),.int .i64 (X.y:Int),.slice ab L cb,.string (strB X.p)],.int .i64 0])∧X.b.length=L∧BytesAt w' ab X.b∧(ab=none→cb=0))∨
 (¬(X.st=some []∧validE X.ent=true)∧e= .returned (.tuple #[.agg #[.int .i64 0,.int .i64 0,.int .i64 0,.int .i64 0,.slice none 0 0,.string ByteArray.empty],.int .i64 3]))
structure DecS (w V:World) (N A0 A1 p PB:Nat) (bs:List Nat) (row:Array Value) (s:RS):Prop where
 x0:V.heap[A0]? =some (.cells #[.int .i64 0,.int .i64 0,.int .i64 0,.int .i64 0,.slice none 0 0,.string ByteArray.empty] 31 (0,0))
 x1:V.heap[A1]? =some (.cells row 31 (0,0))
 rd:RdAt V p bs s
 pb:V.heap[PB]? =some (.cells #[.pointer (some ⟨A1,0,none⟩),.pointer (some ⟨A1,1,none⟩),.pointer (some ⟨A1,2,none⟩),.pointer (some ⟨A1,3,none⟩)] 136 (0,0))
 bel:Below N w V
 ord:N≤A0∧A0<A1∧A1<p∧p<PB
theorem DecS.call {w V V':World} {N A0 A1 p PB:Nat} {bs:List Nat} {row:Array Value} {s s':RS} (h:DecS w V N A0 A1 p PB bs row s) (hc:Chg (RdM p) V V') (hr:RdAt V' p bs s'):DecS w V' N A0 A1 p PB bs row s':=by
 have ho:=h.ord
 have l0:A0<V.heap.size:=(Array.getElem?_eq_some_iff.1 h.x0).1
 have l1:A1<V.heap.size:=(Array.getElem?_eq_some_iff.1 h.x1).1
 have l2:PB<V.heap.size:=(Array.getElem?_eq_some_iff.1 h.pb).1
 refine ⟨(hc.other A0 l0 (fun i hm=>by have h1:A0=p:=hm;omega)).trans h.x0,(hc.other A1 l1 (fun i hm=>by have h1:A1=p:=hm;omega)).trans h.x1,hr,(hc.other PB l2 (fun i hm=>by have h1:PB=p:=hm;omega)).trans h.pb,?_,h.ord⟩
 exact h.bel.trans (hc.below (by omega) (fun q i hq hm=>by have h1:q=p:=hm;omega))
theorem DecS.later {w V V':World} {N A0 A1 p PB:Nat} {bs:List Nat} {row:Array Value} {s:RS} (h:DecS w V N A0 A1 p PB bs row s) (hb:Below V.heap.size V V'):DecS w V' N A0 A1 p PB bs row s:=by
 have ho:=h.ord
 have l0:A0<V.heap.size:=(Array.getElem?_eq_some_iff.1 h.x0).1
 have l1:A1<V.heap.size:=(Array.getElem?_eq_some_iff.1 h.x1).1
 have l2:PB<V.heap.size:=(Array.getElem?_eq_some_iff.1 h.pb).1
 exact ⟨(hb.block A0 l0).trans h.x0,(hb.block A1 l1).trans h.x1,h.rd.later hb,(hb.block PB l2).trans h.pb,h.bel.trans (hb.mono (by omega)),h.ord⟩
def no8 (row:Array Value):Prop:= ∀(i:Nat) (x:Int),row[i]? ≠some (.int .u8 x)
theorem no8_ent (d q k y:Int) (a:Option Addr) (n c:Nat) (s:ByteArray):no8 #[.int .i64 d,.int .i64 q,.int .i64 k,.int .i64 y,.slice a n c,.string s]:=by
 intro i x h
 match i,h with
 | 0,h=>cases h
 | 1,h=>cases h
 | 2,h=>cases h
 | 3,h=>cases h
 | 4,h=>cases h
 | 5,h=>cases h
 | i+6,h=>cases h
theorem RdAt.put {V:World} {p:Nat} {D:List Nat} {s:RS} (h:RdAt V p D s) {A:Nat} {row:Array Value} {T:TypeId} (hA:p≠A) (hg:V.heap[A]? =some (.cells row T (0,0))) (hn:no8 row) (j:Nat) (y:Value):RdAt (V.setCell ⟨A,j,none⟩ y) p D s:=by
 obtain ⟨ad,c,off,last,er,h1,h2,h6,h3,h4,h5⟩:=h
 refine ⟨ad,c,off,last,er,h1.ne hA _,h2,h6,?_,h4,h5⟩
 refine bytes_ne h3 ((Chg.refl (fun q _=>q=A) V).setCell _ (rfl:A=A)) (fun h0 z e i hm=> ?_)
 have h7:z.block=A:=hm
 obtain ⟨b,o,he,hc⟩:=h3.some (List.length_pos_iff.2 h0)
 rw [he] at e
 cases e
 have h8:=hc 0 (List.length_pos_iff.2 h0)
 simp only at h7
 subst h7
 rw [cell_of_row _ _ _ _ _ _ hg] at h8
 exact hn _ _ h8
theorem chg_one {w:World} {A i:Nat} {y:Value}:Chg (fun q _=>q=A) w (w.setCell ⟨A,i,none⟩ y):=Chg.setCell1 _ _ _ _ rfl
theorem DecS.put {w V:World} {N A0 A1 p PB:Nat} {bs:List Nat} {row row':Array Value} {s:RS} (h:DecS w V N A0 A1 p PB bs row s) (hn:no8 row) (j:Nat) (y:Value) (hrow:(V.setCell ⟨A1,j,none⟩ y).heap[A1]? =some (.cells row' 31 (0,0))):DecS w (V.setCell ⟨A1,j,none⟩ y) N A0 A1 p PB bs row' s:=by
 have ho:=h.ord
 exact ⟨(heap_put_ne (by omega)).trans h.x0,hrow,h.rd.put (by omega) h.x1 hn j y,(heap_put_ne (by omega)).trans h.pb,h.bel.setCell (by show N≤A1;omega) _,h.ord⟩
set_option maxRecDepth 100000 in
set_option maxHeartbeats 2000000 in
theorem decode_any (a:Option Addr) (n c:Nat) (bs:List Nat) (hn:bs.length=n) (hl:n≤10000000) (hnil:a=none→c=0) (w:World) (hB:BytesAt w a bs):
    Calls Tryz.prog 34 #[.slice a n c] w fun e w'=>DecOut (rdEnt bs) e w'∧Below w.heap.size w w':=by
 have HNR:=hid (fun w h=>newReader_any a n c bs hn (by omega) hnil w h)
 have HB:=hid hB
 have HLB:Hid (bs.length≤1000000000):=hid (by omega)
 obtain ⟨⟨v0,s1⟩,hr0⟩:=ex_eq (rdU mx (some bs))
 have HR0:=hid hr0
 obtain ⟨⟨v1,s2⟩,hr1⟩:=ex_eq (rdU mx s1)
 have HR1:=hid hr1
 obtain ⟨⟨v2,s3⟩,hr2⟩:=ex_eq (rdU mx s2)
 have HR2:=hid hr2
 obtain ⟨⟨v3,s4⟩,hr3⟩:=ex_eq (rdU mx s3)
 have HR3:=hid hr3
 obtain ⟨⟨xb,s5⟩,hr4⟩:=ex_eq (rdB 69632 s4)
 have HR4:=hid hr4
 obtain ⟨⟨xp,s6⟩,hr5⟩:=ex_eq (rdB 32 s5)
 have HR5:=hid hr5
 have HX:Hid (rdEnt bs=⟨v0,v1,v2,v3,xb,xp,s6⟩):=hid (by unfold rdEnt;simp only [hr0,hr1,hr2,hr3,hr4,hr5])
 rw [HX.o]
 clear hr0 hr1 hr2 hr3 hr4 hr5 hB hnil hn
 go_enter Tryz.func34,Tryz.ntmps34
 go_upto_region 4 with (first
  | (go_at_call 76
     (with_reducible refine (HNR.o _ (HB.o.later two_below)).mono ?_)
     rintro e w2 ⟨p,rfl,hp,hrd,h2⟩
     have HP:=hid hp
     have HRD:=hid hrd
     have H2:=hid h2
     clear hp hrd h2))
 have HPL:Hid (p<w2.heap.size):=hid (by obtain ⟨ad,c,off,last,er,h,_⟩:=HRD.o;exact h.lt)
 refine wp_over (fun V=>Hid (DecS w V w.heap.size w.heap.size (w.heap.size+1) p w2.heap.size bs #[.int .i64 0,.int .i64 0,.int .i64 0,.int .i64 0,.slice none 0 0,.string ByteArray.empty] (some bs))) (hid ?_) ?_
 ·have hs:w.heap.size+2≤w2.heap.size:=by have:=H2.o.size;simp only [World.size_alloc] at this;omega
  have hb2:Below w2.heap.size w2 (w2.alloc (.cells #[.pointer (some ⟨w.heap.size+1,0,none⟩),.pointer (some ⟨w.heap.size+1,1,none⟩),.pointer (some ⟨w.heap.size+1,2,none⟩),.pointer (some ⟨w.heap.size+1,3,none⟩)] 136)):=(Below.refl _ _).alloc (Nat.le_refl _) _
  refine ⟨(hb2.block w.heap.size (by omega)).trans ((H2.o.block w.heap.size (by simp only [World.size_alloc];omega)).trans two_rows1),(hb2.block (w.heap.size+1) (by omega)).trans ((H2.o.block (w.heap.size+1) (by simp only [World.size_alloc];omega)).trans two_rows2),HRD.o.later hb2,heap_alloc_new _ _,?_,?_⟩
  ·exact (two_below.trans (H2.o.mono (by simp only [World.size_alloc];omega))).trans (hb2.mono (by omega))
  ·have h1:=HP.o
   have h2:=HPL.o
   simp only [World.size_alloc] at h1
   omega
 rintro Y HS
 obtain ⟨N,hN⟩:=ex_eq w.heap.size
 obtain ⟨A1,hA1⟩:=ex_eq (w.heap.size+1)
 obtain ⟨PB,hPB⟩:=ex_eq w2.heap.size
 have HN:=hid hN
 have HNA:Hid (A1=N+1):=hid (by omega)
 rw [hA1] at HS ⊢
 rw [hN] at HS ⊢
 rw [hPB] at HS ⊢
 clear hN hA1 hPB HP HRD H2 HPL
 have HRU:=hid (fun s w h=>readUint_any p bs s HLB.o w h)
 go_loopw [18] (fun z wr=>(z= .int .i64 0∧Hid (DecS w wr N N A1 p PB bs #[.int .i64 0,.int .i64 0,.int .i64 0,.int .i64 0,.slice none 0 0,.string ByteArray.empty] (some bs)))∨(z= .int .i64 1∧Hid (DecS w wr N N A1 p PB bs #[.int .i64 (v0:Int),.int .i64 0,.int .i64 0,.int .i64 0,.slice none 0 0,.string ByteArray.empty] s1))∨(z= .int .i64 2∧Hid (DecS w wr N N A1 p PB bs #[.int .i64 (v0:Int),.int .i64 (v1:Int),.int .i64 0,.int .i64 0,.slice none 0 0,.string ByteArray.empty] s2))∨(z= .int .i64 3∧Hid (DecS w wr N N A1 p PB bs #[.int .i64 (v0:Int),.int .i64 (v1:Int),.int .i64 (v2:Int),.int .i64 0,.slice none 0 0,.string ByteArray.empty] s3))∨(z= .int .i64 4∧Hid (DecS w wr N N A1 p PB bs #[.int .i64 (v0:Int),.int .i64 (v1:Int),.int .i64 (v2:Int),.int .i64 (v3:Int),.slice none 0 0,.string ByteArray.empty] s4))) (fun z _=>(4 - intOf z).toNat)
 case atStart=>exact .inl ⟨rfl,HS⟩
 case round=>
  rcases hrel with ⟨rfl,HD⟩ | ⟨rfl,HD⟩ | ⟨rfl,HD⟩ | ⟨rfl,HD⟩ | ⟨rfl,HD⟩
  ·obtain ⟨g0,g1,g2,g3⟩:wr.cell? ⟨PB,0,none⟩=some (.pointer (some ⟨A1,0,none⟩))∧wr.cell? ⟨PB,1,none⟩=some (.pointer (some ⟨A1,1,none⟩))∧wr.cell? ⟨PB,2,none⟩=some (.pointer (some ⟨A1,2,none⟩))∧wr.cell? ⟨PB,3,none⟩=some (.pointer (some ⟨A1,3,none⟩)):=⟨(cell_of_row _ _ _ _ _ _ HD.o.pb).trans rfl,(cell_of_row _ _ _ _ _ _ HD.o.pb).trans rfl,(cell_of_row _ _ _ _ _ _ HD.o.pb).trans rfl,(cell_of_row _ _ _ _ _ _ HD.o.pb).trans rfl⟩
   have HU:=hid (HRU.o (some bs) wr HD.o.rd)
   rw [HR0.o] at HU
   go_wp2_with (first
    | (go_at_call 77
       (with_reducible refine HU.o.mono ?_)
       rintro e w3 ⟨rfl,h3,h4⟩
       have HD2:=hid (HD.o.call h4 h3)
       have c0:=(row6 HD2.o.x1).1
       have f0:w3.frozen? ⟨A1,0,none⟩=false:=frozen_of_row _ _ _ _ _ HD2.o.x1
       clear h3 h4 g0 g1 g2 g3))
   have HD3:Hid (DecS w (w3.setCell ⟨A1,0,none⟩ (.int .i64 (v0:Int))) N N A1 p PB bs #[.int .i64 (v0:Int),.int .i64 0,.int .i64 0,.int .i64 0,.slice none 0 0,.string ByteArray.empty] s1):=hid (HD2.o.put (no8_ent _ _ _ _ _ _ _ _) 0 _ (heap_setCell_same _ A1 0 _ _ _ HD2.o.x1))
   go_roundw
   case rel=>exact .inr (.inl ⟨by first | rfl | go_num,HD3⟩)
   case measure=>simp [intOf]
  ·obtain ⟨g0,g1,g2,g3⟩:wr.cell? ⟨PB,0,none⟩=some (.pointer (some ⟨A1,0,none⟩))∧wr.cell? ⟨PB,1,none⟩=some (.pointer (some ⟨A1,1,none⟩))∧wr.cell? ⟨PB,2,none⟩=some (.pointer (some ⟨A1,2,none⟩))∧wr.cell? ⟨PB,3,none⟩=some (.pointer (some ⟨A1,3,none⟩)):=⟨(cell_of_row _ _ _ _ _ _ HD.o.pb).trans rfl,(cell_of_row _ _ _ _ _ _ HD.o.pb).trans rfl,(cell_of_row _ _ _ _ _ _ HD.o.pb).trans rfl,(cell_of_row _ _ _ _ _ _ HD.o.pb).trans rfl⟩
   have HU:=hid (HRU.o s1 wr HD.o.rd)
   rw [HR1.o] at HU
   go_wp2_with (first
    | (go_at_call 77
       (with_reducible refine HU.o.mono ?_)
       rintro e w3 ⟨rfl,h3,h4⟩
       have HD2:=hid (HD.o.call h4 h3)
       have c1:=(row6 HD2.o.x1).2.1
       have f1:w3.frozen? ⟨A1,1,none⟩=false:=frozen_of_row _ _ _ _ _ HD2.o.x1
       clear h3 h4 g0 g1 g2 g3))
   have HD3:Hid (DecS w (w3.setCell ⟨A1,1,none⟩ (.int .i64 (v1:Int))) N N A1 p PB bs #[.int .i64 (v0:Int),.int .i64 (v1:Int),.int .i64 0,.int .i64 0,.slice none 0 0,.string ByteArray.empty] s2):=hid (HD2.o.put (no8_ent _ _ _ _ _ _ _ _) 1 _ (heap_setCell_same _ A1 1 _ _ _ HD2.o.x1))
   go_roundw
   case rel=>exact .inr (.inr (.inl ⟨by first | rfl | go_num,HD3⟩))
   case measure=>simp [intOf]
  ·obtain ⟨g0,g1,g2,g3⟩:wr.cell? ⟨PB,0,none⟩=some (.pointer (some ⟨A1,0,none⟩))∧wr.cell? ⟨PB,1,none⟩=some (.pointer (some ⟨A1,1,none⟩))∧wr.cell? ⟨PB,2,none⟩=some (.pointer (some ⟨A1,2,none⟩))∧wr.cell? ⟨PB,3,none⟩=some (.pointer (some ⟨A1,3,none⟩)):=⟨(cell_of_row _ _ _ _ _ _ HD.o.pb).trans rfl,(cell_of_row _ _ _ _ _ _ HD.o.pb).trans rfl,(cell_of_row _ _ _ _ _ _ HD.o.pb).trans rfl,(cell_of_row _ _ _ _ _ _ HD.o.pb).trans rfl⟩
   have HU:=hid (HRU.o s2 wr HD.o.rd)
   rw [HR2.o] at HU
   go_wp2_with (first
    | (go_at_call 77
       (with_reducible refine HU.o.mono ?_)
       rintro e w3 ⟨rfl,h3,h4⟩
       have HD2:=hid (HD.o.call h4 h3)
       have c2:=(row6 HD2.o.x1).2.2.1
       have f2:w3.frozen? ⟨A1,2,none⟩=false:=frozen_of_row _ _ _ _ _ HD2.o.x1
       clear h3 h4 g0 g1 g2 g3))
   have HD3:Hid (DecS w (w3.setCell ⟨A1,2,none⟩ (.int .i64 (v2:Int))) N N A1 p PB bs #[.int .i64 (v0:Int),.int .i64 (v1:Int),.int .i64 (v2:Int),.int .i64 0,.slice none 0 0,.string ByteArray.empty] s3):=hid (HD2.o.put (no8_ent _ _ _ _ _ _ _ _) 2 _ (heap_setCell_same _ A1 2 _ _ _ HD2.o.x1))
   go_roundw
   case rel=>exact .inr (.inr (.inr (.inl ⟨by first | rfl | go_num,HD3⟩)))
   case measure=>simp [intOf]
  ·obtain ⟨g0,g1,g2,g3⟩:wr.cell? ⟨PB,0,none⟩=some (.pointer (some ⟨A1,0,none⟩))∧wr.cell? ⟨PB,1,none⟩=some (.pointer (some ⟨A1,1,none⟩))∧wr.cell? ⟨PB,2,none⟩=some (.pointer (some ⟨A1,2,none⟩))∧wr.cell? ⟨PB,3,none⟩=some (.pointer (some ⟨A1,3,none⟩)):=⟨(cell_of_row _ _ _ _ _ _ HD.o.pb).trans rfl,(cell_of_row _ _ _ _ _ _ HD.o.pb).trans rfl,(cell_of_row _ _ _ _ _ _ HD.o.pb).trans rfl,(cell_of_row _ _ _ _ _ _ HD.o.pb).trans rfl⟩
   have HU:=hid (HRU.o s3 wr HD.o.rd)
   rw [HR3.o] at HU
   go_wp2_with (first
    | (go_at_call 77
       (with_reducible refine HU.o.mono ?_)
       rintro e w3 ⟨rfl,h3,h4⟩
       have HD2:=hid (HD.o.call h4 h3)
       have c3:=(row6 HD2.o.x1).2.2.2.1
       have f3:w3.frozen? ⟨A1,3,none⟩=false:=frozen_of_row _ _ _ _ _ HD2.o.x1
       clear h3 h4 g0 g1 g2 g3))
   have HD3:Hid (DecS w (w3.setCell ⟨A1,3,none⟩ (.int .i64 (v3:Int))) N N A1 p PB bs #[.int .i64 (v0:Int),.int .i64 (v1:Int),.int .i64 (v2:Int),.int .i64 (v3:Int),.slice none 0 0,.string ByteArray.empty] s4):=hid (HD2.o.put (no8_ent _ _ _ _ _ _ _ _) 3 _ (heap_setCell_same _ A1 3 _ _ _ HD2.o.x1))
   go_roundw
   case rel=>exact .inr (.inr (.inr (.inr (⟨by first | rfl | go_num,HD3⟩))))
   case measure=>simp [intOf]
  ·have HBY:Hid (Calls Tryz.prog 78 #[.pointer (some ⟨p,0,none⟩),.int .i64 69632] wr fun e w'=>BytesOut p bs (xb,s5) wr e w'):=hid (by rw [← HR4.o];exact rdBytes_any p bs s4 HLB.o 69632 (by decide) wr HD.o.rd)
   have HTX:Hid (∀V,RdAt V p bs s5→Calls Tryz.prog 79 #[.pointer (some ⟨p,0,none⟩),.int .i64 32] V fun e w'=>TextOut p bs (xp,s6) V e w'):=hid (fun V h=>by rw [← HR5.o];exact rdText_any p bs s5 HLB.o 32 (by decide) V h)
   have HEN:=hid (fun w h=>end_any p bs s6 HLB.o w h)
   obtain ⟨z,hz⟩:=ex_eq (strB xp)
   have HZ:=hid hz
   have HTX2:Hid (∀V,RdAt V p bs s5→Calls Tryz.prog 79 #[.pointer (some ⟨p,0,none⟩),.int .i64 32] V fun e w'=>e= .returned (.string z)∧RdAt w' p bs s6∧Chg (RdM p) V w'):=hid (fun V h=>by have h1:=HTX.o V h;unfold TextOut at h1;rw [hz] at h1;exact h1)
   clear hz HTX
   go_upto_region 11 with (first
    | (go_at_call 78
       (with_reducible refine HBY.o.mono ?_)
       rintro e w4 ⟨ab,L,cb,rfl,hlen,hby,hnl,hfr,hrd,hch⟩
       have HLEN:=hid hlen
       have HNL:=hid hnl
       have HFR:=hid hfr
       have HBB:=hid hby
       have HD4:=hid (HD.o.call hch hrd)
       have HD5:Hid (DecS w (w4.setCell ⟨A1,4,none⟩ (.slice ab L cb)) N N A1 p PB bs #[.int .i64 (v0:Int),.int .i64 (v1:Int),.int .i64 (v2:Int),.int .i64 (v3:Int),.slice ab L cb,.string ByteArray.empty] s5):=hid (HD4.o.put (no8_ent _ _ _ _ _ _ _ _) 4 _ (heap_setCell_same _ A1 4 _ _ _ HD4.o.x1))
       have c4:=(row6 HD4.o.x1).2.2.2.2.1
       have f4:w4.frozen? ⟨A1,4,none⟩=false:=frozen_of_row _ _ _ _ _ HD4.o.x1
       clear hlen hby hnl hfr hrd hch)
    | (go_at_call 79
       (with_reducible refine (HTX2.o _ HD5.o.rd).mono ?_)
       rintro e w5 ⟨rfl,hrd,hch⟩
       have HC5:=hid hch
       have HD6:=hid (HD5.o.call hch hrd)
       have HD7:Hid (DecS w (w5.setCell ⟨A1,5,none⟩ (.string z)) N N A1 p PB bs #[.int .i64 (v0:Int),.int .i64 (v1:Int),.int .i64 (v2:Int),.int .i64 (v3:Int),.slice ab L cb,.string z] s6):=hid (HD6.o.put (no8_ent _ _ _ _ _ _ _ _) 5 _ (heap_setCell_same _ A1 5 _ _ _ HD6.o.x1))
       have c5:=(row6 HD6.o.x1).2.2.2.2.2
       have f5:w5.frozen? ⟨A1,5,none⟩=false:=frozen_of_row _ _ _ _ _ HD6.o.x1
       clear hrd hch c4 f4)
    | (go_at_call 80
       (with_reducible refine (HEN.o _ HD7.o.rd).mono ?_)
       rintro e w6 ⟨⟨x,er,rfl,hiff⟩,h6⟩
       have HIFF:=hid hiff
       have HD8:=hid (HD7.o.later h6)
       have HC6:=hid h6
       clear hiff h6 c5 f5))
   have HFR:Hid (∀ad,ab=some ad→ad.block≠A1∧ad.block≠N∧ad.block≠p):=hid (fun ad e=>by
    have h1:=HFR.o ad e
    have h2:=HD.o.ord
    obtain ⟨_,_,_,_,_,h3,_⟩:=HD.o.rd
    have h3:=h3.lt
    omega)
   have HB6:Hid (BytesAt w6 ab xb):=hid (by
    have h1:=bytes_ne HBB.o (chg_one (w:=w4) (A:=A1) (i:=4) (y:= .slice ab L cb)) (fun _ ad e i hm=>(HFR.o ad e).1 hm)
    have h2:=bytes_ne h1 HC5.o (fun _ ad e i hm=>(HFR.o ad e).2.2 hm)
    have h3:=bytes_ne h2 (chg_one (w:=w5) (A:=A1) (i:=5) (y:= .string z)) (fun _ ad e i hm=>(HFR.o ad e).1 hm)
    exact h3.later HC6.o)
   obtain ⟨d0,d1,d2,d3,d4,d5⟩:=row6 HD8.o.x1
   obtain ⟨g0,g1,g2,g3,g4,g5⟩:=row6 HD8.o.x0
   have gf: ∀i,w6.frozen? ⟨N,i,none⟩=false:=fun i=>frozen_of_row _ _ _ _ _ HD8.o.x0
   have HBEL:Hid (∀V,Below w6.heap.size w6 V→Below w.heap.size w V):=hid (fun V h=>by
    have h1:=HD8.o.bel
    rw [HN.o]
    exact h1.trans (h.mono (Nat.le_trans (by have:=HN.o;omega) h1.size)))
   have HENT:Hid ((⟨v0,v1,v2,v3,xb,xp,s6⟩:EntRd).ent=⟨(v0:Int),(v1:Int),(v2:Int),(v3:Int),xb,z⟩):=hid (by unfold EntRd.ent;simp only [HZ.o])
   by_cases her:er=0
   rotate_left
   ·have hb:(er != 0)=true:=by rw [bne_iff_ne];exact her
    have HNO:Hid (¬s6=some []):=hid (fun h=>her (HIFF.o.2 h))
    clear her
    go_wp2_with fail
    refine bodyPost_ret (results_cell_row_tmp (p:=2) (u:=3) rfl _ _ N 31 #[.int .i64 0,.int .i64 0,.int .i64 0,.int .i64 0,.slice none 0 0,.string ByteArray.empty] (0,0) _ (by rfl) (put6_row6 HD8.o.x0) Tryz.underlying31 rfl (by kernel_rfl)) rfl ?_
    exact ⟨.inr ⟨fun h=>HNO.o h.1,rfl⟩,(by rw [HN.o];exact below6 HD8.o.bel (Nat.le_refl _))⟩
   subst her
   have HYES:Hid (s6=some []):=hid (HIFF.o.1 rfl)
   have HVA:=hid (fun w=>validEnt_any (v0:Int) (v1:Int) (v2:Int) (v3:Int) ab L cb z xb HLEN.o w)
   obtain ⟨B,hB⟩:=ex_eq (validE ⟨(v0:Int),(v1:Int),(v2:Int),(v3:Int),xb,z⟩)
   rw [hB] at HVA
   have HBV:Hid (validE (⟨v0,v1,v2,v3,xb,xp,s6⟩:EntRd).ent=B):=hid (by rw [HENT.o];exact hB)
   clear hB
   cases B
   ·go_wp2_with (first
       | (go_at_call 70
          (with_reducible refine (HVA.o _).mono ?_)
          rintro e w7 ⟨rfl,h7⟩
          have HD9:=hid (HD8.o.later h7)
          clear h7 d0 d1 d2 d3 d4 d5 g0 g1 g2 g3 g4 g5 gf
          obtain ⟨g0,g1,g2,g3,g4,g5⟩:=row6 HD9.o.x0
          have gf: ∀i,w7.frozen? ⟨N,i,none⟩=false:=fun i=>frozen_of_row _ _ _ _ _ HD9.o.x0))
    refine bodyPost_ret (results_cell_row_tmp (p:=2) (u:=3) rfl _ _ N 31 #[.int .i64 0,.int .i64 0,.int .i64 0,.int .i64 0,.slice none 0 0,.string ByteArray.empty] (0,0) _ (by rfl) (put6_row6 HD9.o.x0) Tryz.underlying31 rfl (by kernel_rfl)) rfl ?_
    exact ⟨.inr ⟨fun h=>(by have h1:=h.2;rw [HBV.o] at h1;cases h1),rfl⟩,(by rw [HN.o];exact below6 HD9.o.bel (Nat.le_refl _))⟩
   ·go_wp2_with (first
       | (go_at_call 70
          (with_reducible refine (HVA.o _).mono ?_)
          rintro e w7 ⟨rfl,h7⟩
          have HD9:=hid (HD8.o.later h7)
          have HB7:=hid (HB6.o.later h7)
          clear h7 d0 d1 d2 d3 d4 d5 g0 g1 g2 g3 g4 g5 gf
          obtain ⟨d0,d1,d2,d3,d4,d5⟩:=row6 HD9.o.x1
          obtain ⟨g0,g1,g2,g3,g4,g5⟩:=row6 HD9.o.x0
          have gf: ∀i,w7.frozen? ⟨N,i,none⟩=false:=fun i=>frozen_of_row _ _ _ _ _ HD9.o.x0))
    refine bodyPost_ret (results_cell_row_tmp (p:=2) (u:=3) rfl _ _ N 31 #[.int .i64 (v0:Int),.int .i64 (v1:Int),.int .i64 (v2:Int),.int .i64 (v3:Int),.slice ab L cb,.string z] (0,0) _ (by rfl) (put6_row6 HD9.o.x0) Tryz.underlying31 rfl (by kernel_rfl)) rfl ?_
    refine ⟨.inl ⟨HYES.o,HBV.o,ab,L,cb,by rw [HZ.o];rfl,HLEN.o,?_,HNL.o⟩,(by rw [HN.o];exact below6 HD9.o.bel (Nat.le_refl _))⟩
    exact bytes_ne HB7.o ((((((chg_one (w:=w7) (A:=N) (i:=0)).trans (chg_one (A:=N) (i:=1))).trans (chg_one (A:=N) (i:=2))).trans (chg_one (A:=N) (i:=3))).trans (chg_one (A:=N) (i:=4))).trans (chg_one (A:=N) (i:=5))) (fun _ ad e i hm=>(HFR.o ad e).2.1 hm)
end Go.Proofs.YtmeimbnfgdnlbaaGreatDoor
