/- Texts Wrt, Gsp, Gva, Gen, Tpl, Gch, Gst, Plh, Lpl, Gcl, Gcg, Gpl, Gmp, Gsn, Gvc, Gla, Gap, merged. -/
import Derived.Laws.MakeOwn
import Derived.Maps.OwnSet
import Derived.Maps.AppendAt
import Derived.Deep.OwnRows
import Derived.Test.YtndlihclgdkpaaaGreatDoorGb
import Derived.Test.YtndlihclgdkpaaaGreatDoorGc
import Derived.Test.YtndlihclgdkpaaaGreatDoorGd
import Derived.Test.YtndlihclgdkpaaaGreatDoorGf
/- wire.Writer. -/
set_option linter.unusedVariables false
set_option linter.unusedSimpArgs false
open Go.Lib (hid)
set_option maxHeartbeats 2000000
set_option maxRecDepth 100000
namespace Go.Proofs.YtndlihclgdkpaaaGreatDoor
open Go.RowKit
open Kit (Chg)
open Sha (v)
open Go.Proofs.YtndlihclgdkpaaaGreatDoor.One

section
variable {a:Act} {ops:Array Oper} {o:Oper} {rest:List Oper} {Q:Exit→Act→World→Prop}
theorem app_txt {w0:World} (hgd:o.guard=none) (s x:Operand) (ho:o.op= .call { callee:= .builtin .append,args:= #[s,x],argTypes:= #[52,9] })
    (base:Nat) (v:Value) (L:Nat) (cur:List Nat) (hs:a.eval s=v) (hown:w0.ownsRow base 5 1 v L (bvals cur)) (hb:base≤w0.heap.size) (hL:L≤1000000000000)
    (str:ByteArray) (m:Nat) (hm:str.size=m) (hm2:m≤1000000000000) (hx:a.eval x= .string str)
    (h: ∀v' w',w'.ownsRow base 5 1 v' (L+m) (bvals (cur++nb str))→Below base w0 w'→wpList Tryz.prog ops Q rest (a.put o.dst v') w'):wpList Tryz.prog ops Q (o::rest) a w0:=by
 obtain ⟨i0,hi,hz0,hz1,hz2⟩:=info_parts Tryz.info5
 subst hm
 refine wpList_append_str hgd s x 52 9 ho base 5 i0 Tryz.underlying52 Tryz.underlying9 hi hz0 hz1 hz2 v L (bvals cur) hs hown str hx (by unfold maxLen;omega) (by omega) hb ?_
 intro v' w4 hown4 hgr4
 refine h v' w4 (by rw [bvals_append];exact hown4) ?_
 exact (Chg.of_grown hgr4 (fun q _ e=>(hown.lt q e).1):Chg (fun q _=>base≤q) w0 w4).below hb (fun q i hq h=>by omega)
end
def WrAt (w:World) (g B:Nat) (bs:List Nat):Prop:=g<B∧B≤w.heap.size∧ ∃v L,bs.length=L∧w.heap[g]? =some (.cells #[v,.int .i64 0] 265 (0,0))∧w.ownsRow B 5 1 v L (bvals bs)∧(∀x ∈ bs,x<256)
def WrM (g B:Nat):Nat→Nat→Prop:=fun q _=>q=g∨B≤q
theorem WrAt.start {w:World} {g B:Nat} (h:w.heap[g]? =some (.cells #[.slice none 0 0,.int .i64 0] 265 (0,0))) (hg:g<B) (hB:B≤w.heap.size):WrAt w g B []:=⟨hg,hB,.slice none 0 0,0,rfl,h,⟨rfl,.inl ⟨rfl,rfl⟩⟩,by simp⟩
theorem WrAt.put {w:World} {g B:Nat} {v0 v:Value} {L:Nat} {bs:List Nat} (h5:g<B) (h6:B≤w.heap.size) (hg:w.heap[g]? =some (.cells #[v0,.int .i64 0] 265 (0,0))) (ho:w.ownsRow B 5 1 v L (bvals bs)) (hl:bs.length=L) (hb: ∀x ∈ bs,x<256):WrAt (w.setCell ⟨g,0,none⟩ v) g B bs:=
 ⟨h5,by simpa [World.setCell] using h6,v,L,hl,heap_setCell_same w g 0 _ _ _ hg,ownsRow_keepM ho (Chg.setCell1 (M:=fun q _=>q=g) w g 0 v rfl) (fun q hq i e=>by have:=(ho.lt q hq).1;omega),hb⟩
theorem wr_chg {w0 w:World} {g B:Nat} {v:Value} (h:Below B w0 w):Chg (WrM g B) w0 (w.setCell ⟨g,0,none⟩ v):=(Chg.of_below' h (fun k i hk _=> .inr hk)).setCell _ (.inl rfl)
theorem wr_cells {w:World} {g:Nat} {v:Value} (h:w.heap[g]? =some (.cells #[v,.int .i64 0] 265 (0,0))):w.cell? ⟨g,0,none⟩=some v∧w.cell? ⟨g,1,none⟩=some (.int .i64 0)∧ ∀i,w.frozen? ⟨g,i,none⟩=false:=
 ⟨cr h,cr h,fun i=>frozen_of_row _ _ _ _ _ h⟩
theorem BytesAt.blk {w:World} {a:Option Addr} {bs:List Nat} (h:BytesAt w a bs): ∀ad,a=Option.some ad→bs≠[]→ad.block<w.heap.size:=by
 intro ad e hne
 rcases h.1 with h0 | ⟨b,o,e2,hc⟩
 ·exact absurd h0 hne
 ·rw [e] at e2
  cases e2
  exact World.block_lt_of_cell? w ⟨b,o+0,none⟩ (hc 0 (List.length_pos_iff.2 hne))
theorem BytesAt.below {w w':World} {a:Option Addr} {bs:List Nat} {B:Nat} (h:BytesAt w a bs) (hb:Below B w w') (hk: ∀ad,a=Option.some ad→bs≠[]→ad.block<B):BytesAt w' a bs:=by
 refine ⟨?_,h.2⟩
 rcases h.1 with h0 | ⟨b,o,e,hc⟩
 ·exact .inl h0
 ·by_cases h0:bs=[]
  ·exact .inl h0
  ·exact .inr ⟨b,o,e,fun i hi=>(hb.cell (p:=⟨b,o+i,none⟩) (show b<B from hk _ e h0)).trans (hc i hi)⟩
theorem newWriter_ok (w:World):Calls Tryz.prog 103 #[] w fun e w'=> ∃g,e= .returned (.pointer (some ⟨g,0,none⟩))∧w'.heap[g]? =some (.cells #[.slice none 0 0,.int .i64 0] 265 (0,0))∧w.heap.size≤g∧Below w.heap.size w w':=by
 have HB:Hid (Below w.heap.size w (w.alloc (.cells #[.slice none 0 0,.int .i64 0] 265))):=hid ((Below.refl _ _).alloc (Nat.le_refl _) _)
 have HR:Hid ((w.alloc (.cells #[.slice none 0 0,.int .i64 0] 265)).heap[w.heap.size]? =some (.cells #[.slice none 0 0,.int .i64 0] 265 (0,0))):=hid (heap_alloc_new w _)
 go_enter Tryz.func103,Tryz.ntmps103
 go_wp2
 go_ret
 exact ⟨_,rfl,HR.o,Nat.le_refl _,HB.o⟩
theorem extend_l (base:Nat) (x:Value) (bs:List Nat) (L:Nat) (hLe:bs.length=L) (n:Nat) (hn:n<18446744073709551616) (hl:L≤100000) (hb8: ∀x ∈ bs,x<256) (w:World) (hO:w.ownsRow base 5 1 x L (bvals bs)) (hb:base≤w.heap.size):
    Calls Tryz.prog 200 #[x,.int .u64 (n:Int)] w fun e w'=> ∃v' L',e= .returned v'∧(bs++num n).length=L'∧w'.ownsRow base 5 1 v' L' (bvals (bs++num n))∧(∀x ∈ bs++num n,x<256)∧L'≤L+10∧Below base w w':=by
 subst hLe
 refine (extend_any base x bs n hn hl w hO hb).mono ?_
 rintro e w' ⟨v',rfl,h1,h2⟩
 refine ⟨v',_,rfl,rfl,h1,fun y hy=> ?_,by rw [List.length_append];have:=num_len10 hn;omega,h2.below hb (fun q i hq h=>by omega)⟩
 rcases List.mem_append.1 hy with h | h
 ·exact hb8 y h
 ·exact num_lt n y h
theorem wrUint_ok (g B:Nat) (bs:List Nat) (n:Nat) (hn:n<18446744073709551616) (hl:bs.length≤100000) (w:World) (h:WrAt w g B bs):
    Calls Tryz.prog 105 #[.pointer (some ⟨g,0,none⟩),.int .u64 (n:Int)] w fun e w'=>e= .returned (.tuple #[])∧WrAt w' g B (bs++num n)∧Chg (WrM g B) w w':=by
 obtain ⟨hgB,hlt,v0,L,hL,hg,ho,hb8⟩:=h
 have HG:=hid hg
 have HX:=hid (extend_l B v0 bs L hL n hn (by omega) hb8 w ho hlt)
 have HLT:=hid hlt
 have HGB:=hid hgB
 obtain ⟨c0,c1,cf⟩:=wr_cells hg
 have HL0:Hid (L≤100000):=hid (by omega)
 clear hg ho hL hlt hgB hb8 hl
 go_enter Tryz.func105,Tryz.ntmps105
 go_wp2_with (first
  | (go_at_call 200
     (refine HX.o.mono ?_)
     rintro e w2 ⟨v2,L2,rfl,hL2,ho2,hb2,hle2,h2⟩
     have hl0:=HL0.o
     obtain ⟨a2,cp2,rfl,_,_,_,_,_⟩:=own_bytes ho2 hb2 (by unfold maxLen;omega)
     have HG2:=hid ((h2.block g HGB.o).trans HG.o)
     have HO2:=hid ho2
     have HL2:=hid hL2
     have HB2:=hid hb2
     have H2:=hid h2
     clear c0 c1 cf
     obtain ⟨c0,c1,cf⟩:=wr_cells HG2.o
     clear ho2 hL2 hb2 h2 hle2 hl0))
 go_end0
 refine ⟨rfl,WrAt.put HGB.o (by have:=H2.o.size;have:=HLT.o;omega) HG2.o HO2.o HL2.o HB2.o,wr_chg H2.o⟩
theorem wrBytes_ok (g B:Nat) (bs:List Nat) (a:Option Addr) (cap L:Nat) (xs:List Nat) (hLe:xs.length=L) (hnil:a=none→cap=0) (hl:bs.length≤100000) (hl2:L≤100000000) (w:World) (h:WrAt w g B bs) (hB:BytesAt w a xs) (hk: ∀ad,a=some ad→xs≠[]→ad.block<B):
    Calls Tryz.prog 225 #[.pointer (some ⟨g,0,none⟩),.slice a L cap] w fun e w'=>e= .returned (.tuple #[])∧WrAt w' g B (bs++(num L++xs))∧Chg (WrM g B) w w':=by
 obtain ⟨hgB,hlt,v0,L0,hL,hg,ho,hb8⟩:=h
 have HG:=hid hg
 have HX:=hid (extend_l B v0 bs L0 hL L (by omega) (by omega) hb8 w ho hlt)
 have HLT:=hid hlt
 have HGB:=hid hgB
 have HB:=hid hB
 have HLE:=hid hLe
 have HNIL:=hid hnil
 have HK:=hid hk
 have HL0:Hid (L0≤100000):=hid (by omega)
 obtain ⟨c0,c1,cf⟩:=wr_cells hg
 clear hg ho hL hlt hgB hb8 hl hB hLe hnil hk
 have hwu:IntKind.u64.wrap (L:Int)=(L:Int):=by rw [IntKind.wrap_u64];omega
 go_enter Tryz.func225,Tryz.ntmps225
 go_wp2_with (first
  | (go_at_call 200
     (refine HX.o.mono ?_)
     rintro e w2 ⟨v2,L2,rfl,hL2,ho2,hb2,hle2,h2⟩
     have hl0:=HL0.o
     obtain ⟨a2,cp2,rfl,_,_,_,_,_⟩:=own_bytes ho2 hb2 (by unfold maxLen;omega)
     have HG2:=hid ((h2.block g HGB.o).trans HG.o)
     have HO2:=hid ho2
     have HL2:=hid hL2
     have HB2:=hid hb2
     have H2:=hid h2
     have HLE2:=hid hle2
     have HZ2:Hid (B≤w2.heap.size):=hid (by have:=h2.size;have:=HLT.o;omega)
     clear c0 c1 cf
     obtain ⟨c0,c1,cf⟩:=wr_cells HG2.o
     clear ho2 hL2 hb2 h2 hle2 hl0)
  | (at_builtin
     refine app_bytes rfl _ _ rfl B _ L2 (bs++num L) (by rfl) HO2.o HZ2.o (by have:=HLE2.o;have:=HL0.o;omega) a L cap xs HLE.o (by omega) (by rfl) (BytesAt.below HB.o H2.o HK.o) HNIL.o ?_
     intro v3 w3 ho3 h3
     obtain ⟨a3,cp3,rfl,_,_,_,_,_⟩:=own_bytes ho3 (app_lt HB2.o HB.o.2.1) (by rw [List.length_append,HL2.o,HLE.o];have:=HLE2.o;have:=HL0.o;unfold maxLen;omega)
     have HG3:=hid ((h3.block g HGB.o).trans HG2.o)
     have HO3:=hid ho3
     have H3:=hid (H2.o.trans h3)
     clear c0 c1 cf
     obtain ⟨c0,c1,cf⟩:=wr_cells HG3.o
     clear ho3 h3))
 go_end0
 refine ⟨rfl,?_,wr_chg H3.o⟩
 rw [← List.append_assoc]
 exact WrAt.put HGB.o (by have:=H3.o.size;have:=HLT.o;omega) HG3.o HO3.o (by rw [List.length_append,HL2.o,HLE.o]) (app_lt HB2.o HB.o.2.1)
theorem wrText_ok (g B:Nat) (bs:List Nat) (s:ByteArray) (L:Nat) (hLe:s.size=L) (hl:bs.length≤100000) (hl2:L≤100000000) (w:World) (h:WrAt w g B bs):
    Calls Tryz.prog 186 #[.pointer (some ⟨g,0,none⟩),.string s] w fun e w'=>e= .returned (.tuple #[])∧WrAt w' g B (bs++(num L++nb s))∧Chg (WrM g B) w w':=by
 obtain ⟨hgB,hlt,v0,L0,hL,hg,ho,hb8⟩:=h
 have HG:=hid hg
 have hex:=extend_l B v0 bs L0 hL L (by omega) (by omega) hb8 w ho hlt
 have HLT:=hid hlt
 have HGB:=hid hgB
 have HLE:=hid hLe
 rw [← hLe] at hex
 have HX:=hid hex
 have HL0:Hid (L0≤100000):=hid (by omega)
 obtain ⟨c0,c1,cf⟩:=wr_cells hg
 have hwu:IntKind.u64.wrap (s.size:Int)=(s.size:Int):=by rw [IntKind.wrap_u64];omega
 clear hg ho hL hlt hgB hb8 hl hLe hex
 go_enter Tryz.func186,Tryz.ntmps186
 go_wp2_with (first
  | (go_at_call 200
     (refine HX.o.mono ?_)
     rintro e w2 ⟨v2,L2,rfl,hL2,ho2,hb2,hle2,h2⟩
     have hl0:=HL0.o
     obtain ⟨a2,cp2,rfl,_,_,_,_,_⟩:=own_bytes ho2 hb2 (by unfold maxLen;omega)
     have HG2:=hid ((h2.block g HGB.o).trans HG.o)
     have HO2:=hid ho2
     have HL2:=hid hL2
     have HB2:=hid hb2
     have H2:=hid h2
     have HLE2:=hid hle2
     have HZ2:Hid (B≤w2.heap.size):=hid (by have:=h2.size;have:=HLT.o;omega)
     clear c0 c1 cf
     obtain ⟨c0,c1,cf⟩:=wr_cells HG2.o
     clear ho2 hL2 hb2 h2 hle2 hl0)
  | (at_builtin
     refine app_txt rfl _ _ rfl B _ L2 (bs++num s.size) (by rfl) HO2.o HZ2.o (by have:=HLE2.o;have:=HL0.o;omega) s L HLE.o (by omega) (by rfl) ?_
     intro v3 w3 ho3 h3
     obtain ⟨a3,cp3,rfl,_,_,_,_,_⟩:=own_bytes ho3 (app_lt HB2.o (nb_lt s)) (by rw [List.length_append,HL2.o,nb_length,HLE.o];have:=HLE2.o;have:=HL0.o;unfold maxLen;omega)
     have HG3:=hid ((h3.block g HGB.o).trans HG2.o)
     have HO3:=hid ho3
     have H3:=hid (H2.o.trans h3)
     clear c0 c1 cf
     obtain ⟨c0,c1,cf⟩:=wr_cells HG3.o
     clear ho3 h3))
 go_end0
 refine ⟨rfl,?_,wr_chg H3.o⟩
 rw [← List.append_assoc,show num L=num s.size by rw [HLE.o]]
 exact WrAt.put HGB.o (by have:=H3.o.size;have:=HLT.o;omega) HG3.o HO3.o (by rw [List.length_append,HL2.o,nb_length,HLE.o]) (app_lt HB2.o (nb_lt s))
theorem wrSum_ok (g B:Nat) (bs:List Nat) (s:ByteArray) (hs:s.size=32) (hl:bs.length≤100000) (w:World) (h:WrAt w g B bs):
    Calls Tryz.prog 107 #[.pointer (some ⟨g,0,none⟩),.string s] w fun e w'=>e= .returned (.tuple #[])∧WrAt w' g B (bs++nb s)∧Chg (WrM g B) w w':=by
 obtain ⟨hgB,hlt,v0,L0,hL,hg,ho,hb8⟩:=h
 have HG:=hid hg
 have HO:=hid ho
 have HLT:Hid (B≤w.heap.size):=hid hlt
 have HGB:=hid hgB
 have HS:=hid hs
 have HL0:Hid (L0≤100000):=hid (by omega)
 have HL:=hid hL
 have HB8:=hid hb8
 have hne:(((s.size:Nat):Int) != 32)=false:=by rw [hs];rfl
 obtain ⟨c0,c1,cf⟩:=wr_cells hg
 clear hg ho hL hlt hgB hb8 hl hs
 go_enter Tryz.func107,Tryz.ntmps107
 go_wp2_with (first
  | (at_builtin
     refine app_txt rfl _ _ rfl B _ L0 bs (by rfl) HO.o HLT.o (by have:=HL0.o;omega) s 32 HS.o (by decide) (by rfl) ?_
     intro v3 w3 ho3 h3
     obtain ⟨a3,cp3,rfl,_,_,_,_,_⟩:=own_bytes ho3 (app_lt HB8.o (nb_lt s)) (by rw [List.length_append,HL.o,nb_length,HS.o];have:=HL0.o;unfold maxLen;omega)
     have HG3:=hid ((h3.block g HGB.o).trans HG.o)
     have HO3:=hid ho3
     have H3:=hid h3
     clear c0 c1 cf
     obtain ⟨c0,c1,cf⟩:=wr_cells HG3.o
     clear ho3 h3))
 go_end0
 refine ⟨rfl,?_,wr_chg H3.o⟩
 exact WrAt.put HGB.o (by have:=H3.o.size;have:=HLT.o;omega) HG3.o HO3.o (by rw [List.length_append,HL.o,nb_length,HS.o]) (app_lt HB8.o (nb_lt s))
theorem own_empty_bytes (w:World):(w.alloc (.cells #[] 5)).ownsRow w.heap.size 5 1 (.slice (some ⟨w.heap.size,0,none⟩) 0 0) 0 (bvals []):=⟨rfl,.inr ⟨w.heap.size,0,#[],rfl,Nat.le_refl _,heap_alloc_new w _,Nat.le_refl _,by decide,rfl,rfl⟩⟩
theorem wrDone_ok (g B:Nat) (bs:List Nat) (hl:bs.length≤1048576) (w:World) (h:WrAt w g B bs):
    Calls Tryz.prog 108 #[.pointer (some ⟨g,0,none⟩)] w fun e w'=> ∃a L cap,e= .returned (.tuple #[.slice a L cap,.int .i64 0])∧bs.length=L∧L≤cap∧BytesAt w' a bs∧(a=none→cap=0)∧(∀ad,a=some ad→w.heap.size≤ad.block)∧Below w.heap.size w w':=by
 obtain ⟨hgB,hlt,v0,L,hL,hg,ho,hb8⟩:=h
 obtain ⟨a0,cp0,rfl,hl0,hcp0,hB0,hnil0,_⟩:=own_bytes ho hb8 (by unfold maxLen;omega)
 have HB0:=hid (hB0.later ((Below.refl w.heap.size w).alloc (Nat.le_refl _) (.cells #[] 5)))
 have HN0:=hid hnil0
 have HL:=hid hL
 have HB8:=hid hb8
 have HLL:Hid (L≤1048576):=hid (by omega)
 have hgt:decide (1048576<L)=false:=decide_eq_false (by omega)
 have hgt2:((1048576:Int)<(L:Int))=False:=eq_false (by omega)
 have hgt3:decide ((1048576:Int)<(L:Int))=false:=decide_eq_false (by omega)
 have HW1:Hid (w.heap.size≤(w.alloc (.cells #[] 5)).heap.size):=hid (by simp)
 have HE:=hid (own_empty_bytes w)
 have HBW:Hid (Below w.heap.size w (w.alloc (.cells #[] 5))):=hid ((Below.refl _ _).alloc (Nat.le_refl _) _)
 obtain ⟨c0,c1,cf⟩:=wr_cells hg
 obtain ⟨d0,d1,df⟩:=wr_cells ((HBW.o.block g (gS hg).1).trans hg)
 clear hg ho hL hgB hlt hb8 hl hB0 hnil0 hl0 hcp0
 go_enter Tryz.func108,Tryz.ntmps108
 go_wp2_with (first
  | (at_builtin
     refine app_bytes rfl _ _ rfl w.heap.size _ 0 [] (by rfl) HE.o HW1.o (by decide) a0 L cp0 bs HL.o (by have:=HLL.o;omega) (by rfl) HB0.o HN0.o ?_
     intro v3 w3 ho3 h3
     have HO3:=hid ho3
     have H3:=hid (HBW.o.trans h3)
     clear ho3 h3))
 have ho3:=HO3.o
 rw [List.nil_append,Nat.zero_add] at ho3
 obtain ⟨a3,cp3,rfl,hl3,hcp3,hB3,hnil3,hlt3⟩:=own_bytes ho3 HB8.o (by have:=HL.o;have:=HLL.o;unfold maxLen;omega)
 go_ret2
 exact ⟨a3,L,cp3,rfl,hl3,by omega,hB3,hnil3,fun ad e=>(hlt3 ad e).1,H3.o⟩
end Go.Proofs.YtndlihclgdkpaaaGreatDoor
namespace Go.Proofs.YtndlihclgdkpaaaGreatDoor
open Go.Proofs.YtndlihclgdkpaaaGreatDoor.One

structure Ent where
 dev:Int
 seq:Int
 kind:Int
 day:Int
 body:List Nat
 prev:ByteArray
theorem Ent.ext' {a b:Ent} (h1:a.dev=b.dev) (h2:a.seq=b.seq) (h3:a.kind=b.kind) (h4:a.day=b.day) (h5:a.body=b.body) (h6:a.prev=b.prev):a=b:=by
 cases a;cases b;simp_all
def inB (x lo hi:Int):Bool:=decide (lo≤x) && decide (x≤hi)
def validE (e:Ent):Bool:=inB e.dev 0 11 && (inB e.seq 1 1099511627776 && (inB e.kind 1 9 && (inB e.day 0 999999 && (decide (e.body.length≤69632) && decide (e.prev.size=if e.seq=1 then 0 else 32)))))
structure ValidE (e:Ent):Prop where
 dev0:0≤e.dev
 dev1:e.dev≤11
 seq0:1≤e.seq
 seq1:e.seq≤1099511627776
 kind0:1≤e.kind
 kind1:e.kind≤9
 day0:0≤e.day
 day1:e.day≤999999
 body:e.body.length≤69632
 prev:e.prev.size=if e.seq=1 then 0 else 32
theorem validE_iff (e:Ent):validE e=true↔ValidE e:=by
 unfold validE inB
 simp only [Bool.and_eq_true,decide_eq_true_eq]
 constructor
 ·rintro ⟨⟨a,b⟩,⟨c,d⟩,⟨f,g⟩,⟨h,i⟩,j,k⟩
  exact ⟨a,b,c,d,f,g,h,i,j,k⟩
 ·rintro ⟨a,b,c,d,f,g,h,i,j,k⟩
  exact ⟨⟨a,b⟩,⟨c,d⟩,⟨f,g⟩,⟨h,i⟩,j,k⟩
def encE (e:Ent):List Nat:=num e.dev.toNat++num e.seq.toNat++num e.kind.toNat++num e.day.toNat++(num e.body.length++e.body)++(num e.prev.size++nb e.prev)
def sumE (e:Ent):List Nat:=Sha.sum (encE e)
theorem num_len40 {n:Nat} (h:n≤1099511627776):(num n).length≤6:=num_pow 5 n (by omega)
theorem encE_len {e:Ent} (h:ValidE e):(encE e).length≤70000:=by
 have h1:=num_len40 (n:=e.dev.toNat) (by have:=h.dev1;omega)
 have h2:=num_len40 (n:=e.seq.toNat) (by have:=h.seq1;omega)
 have h3:=num_len40 (n:=e.kind.toNat) (by have:=h.kind1;omega)
 have h4:=num_len40 (n:=e.day.toNat) (by have:=h.day1;omega)
 have h5:=num_len40 (n:=e.body.length) (by have:=h.body;omega)
 have hp:e.prev.size≤32:=by rw [h.prev];split<;> omega
 have h6:=num_len40 (n:=e.prev.size) (by omega)
 have h7:=nb_length e.prev
 have h8:=h.body
 unfold encE
 simp only [List.length_append]
 omega
theorem sumE_len (e:Ent):(sumE e).length=32:=Sha.sum_length _
theorem sumE_lt (e:Ent): ∀x ∈ sumE e,x<256:=Sha.sum_lt _
end Go.Proofs.YtndlihclgdkpaaaGreatDoor
namespace Go.Proofs.YtndlihclgdkpaaaGreatDoor
open Go.RowKit
open Kit (Chg)
open Sha (v)
open Go.Proofs.YtndlihclgdkpaaaGreatDoor.One

theorem row6 {w:World} {N:Nat} {x0 x1 x2 x3 x4 x5:Value} {T:TypeId} {f:Nat × Nat} (hg:w.heap[N]? =some (.cells #[x0,x1,x2,x3,x4,x5] T f)):w.cell? ⟨N,0,none⟩=some x0∧w.cell? ⟨N,1,none⟩=some x1∧w.cell? ⟨N,2,none⟩=some x2∧w.cell? ⟨N,3,none⟩=some x3∧w.cell? ⟨N,4,none⟩=some x4∧w.cell? ⟨N,5,none⟩=some x5:=
 ⟨cr hg,cr hg,cr hg,cr hg,cr hg,cr hg⟩
theorem within_any (x lo hi:Int) (w:World):Calls Tryz.prog 142 #[.int .i64 x,.int .i64 lo,.int .i64 hi] w fun e w'=>e= .returned (.bool (inB x lo hi))∧w=w':=by
 by_cases h1:lo≤x
 ·by_cases h2:x≤hi
  ·have HF:Hid (inB x lo hi=true):=hid (by unfold inB;rw [decide_eq_true h1,decide_eq_true h2];rfl)
   have hd1:=decide_eq_true h1
   have hd2:=decide_eq_true h2
   go_enter Tryz.func142,Tryz.ntmps142
   go_wp2_with fail
   go_ret
   exact ⟨by rw [HF.o];first | rfl | simp,rfl⟩
  ·have HF:Hid (inB x lo hi=false):=hid (by unfold inB;rw [decide_eq_false h2];simp)
   have hd1:=decide_eq_true h1
   have hd2:=decide_eq_false h2
   go_enter Tryz.func142,Tryz.ntmps142
   go_wp2_with fail
   go_ret
   exact ⟨by rw [HF.o];first | rfl | simp,rfl⟩
 ·have HF:Hid (inB x lo hi=false):=hid (by unfold inB;rw [decide_eq_false h1];rfl)
  have hd1:=decide_eq_false h1
  go_enter Tryz.func142,Tryz.ntmps142
  go_wp2_with fail
  go_ret
  exact ⟨by rw [HF.o];first | rfl | simp,rfl⟩
theorem validEnt_any (dv sq kd dy:Int) (a:Option Addr) (n c:Nat) (p:ByteArray) (bs:List Nat) (hn:bs.length=n) (w:World):Calls Tryz.prog 224 #[.agg #[.int .i64 dv,.int .i64 sq,.int .i64 kd,.int .i64 dy,.slice a n c,.string p]] w fun e w'=>e= .returned (.bool (validE ⟨dv,sq,kd,dy,bs,p⟩))∧Below w.heap.size w w':=by
 obtain ⟨D1,hD1⟩:=ex_eq (inB dv 0 11)
 obtain ⟨D2,hD2⟩:=ex_eq (inB sq 1 1099511627776)
 obtain ⟨D3,hD3⟩:=ex_eq (inB kd 1 9)
 obtain ⟨D4,hD4⟩:=ex_eq (inB dy 0 999999)
 have HV:Hid (validE ⟨dv,sq,kd,dy,bs,p⟩=(D1 && (D2 && (D3 && (D4 && (decide (n≤69632) && decide (p.size=if sq=1 then 0 else 32))))))):=hid (by unfold validE;rw [hD1,hD2,hD3,hD4,hn])
 have HW1:=hid (fun w=>within_any dv 0 11 w)
 have HW2:=hid (fun w=>within_any sq 1 1099511627776 w)
 have HW3:=hid (fun w=>within_any kd 1 9 w)
 have HW4:=hid (fun w=>within_any dy 0 999999 w)
 rw [hD1] at HW1
 rw [hD2] at HW2
 rw [hD3] at HW3
 rw [hD4] at HW4
 have HS1:Hid (D2=true→sq≠1→1<sq):=hid (fun h h1=>by rw [← hD2] at h;unfold inB at h;simp only [Bool.and_eq_true,decide_eq_true_eq] at h;omega)
 clear hD1 hD2 hD3 hD4 hn
 cases D1
 ·skip
  go_enter Tryz.func224,Tryz.ntmps224
  go_upto_region 1 with fail
  refine wp_over (fun W=>Hid (W.heap[w.heap.size]? =some (.cells #[.int .i64 dv,.int .i64 sq,.int .i64 kd,.int .i64 dy,.slice a n c,.string p] 92 (0,0)))∧Hid (Below w.heap.size w W)) ⟨heap_alloc_new _ _,(Below.refl _ _).alloc (Nat.le_refl _) _⟩ ?_
  rintro W ⟨HG,HB⟩
  obtain ⟨N,hN⟩:=ex_eq w.heap.size
  rw [hN] at HG HB ⊢
  have HN:=hid hN
  clear hN
  obtain ⟨c0,c1,c2,c3,c4,c5⟩:=row6 HG.o
  go_wp2_with (first
   | (go_at_call 142
      (with_reducible refine (HW1.o _).mono ?_)
      rintro e w2 ⟨rfl,rfl⟩)
   | (go_at_call 142
      (with_reducible refine (HW2.o _).mono ?_)
      rintro e w2 ⟨rfl,rfl⟩)
   | (go_at_call 142
      (with_reducible refine (HW3.o _).mono ?_)
      rintro e w2 ⟨rfl,rfl⟩)
   | (go_at_call 142
      (with_reducible refine (HW4.o _).mono ?_)
      rintro e w2 ⟨rfl,rfl⟩))
  all_goals (
   go_ret
   exact ⟨by rw [HV.o];first | rfl | (rw [hd5];rfl) | (simp;done),by rw [HN.o];exact HB.o⟩)
 ·skip
  cases D2
  ·skip
   go_enter Tryz.func224,Tryz.ntmps224
   go_upto_region 1 with fail
   refine wp_over (fun W=>Hid (W.heap[w.heap.size]? =some (.cells #[.int .i64 dv,.int .i64 sq,.int .i64 kd,.int .i64 dy,.slice a n c,.string p] 92 (0,0)))∧Hid (Below w.heap.size w W)) ⟨heap_alloc_new _ _,(Below.refl _ _).alloc (Nat.le_refl _) _⟩ ?_
   rintro W ⟨HG,HB⟩
   obtain ⟨N,hN⟩:=ex_eq w.heap.size
   rw [hN] at HG HB ⊢
   have HN:=hid hN
   clear hN
   obtain ⟨c0,c1,c2,c3,c4,c5⟩:=row6 HG.o
   go_wp2_with (first
    | (go_at_call 142
       (with_reducible refine (HW1.o _).mono ?_)
       rintro e w2 ⟨rfl,rfl⟩)
    | (go_at_call 142
       (with_reducible refine (HW2.o _).mono ?_)
       rintro e w2 ⟨rfl,rfl⟩)
    | (go_at_call 142
       (with_reducible refine (HW3.o _).mono ?_)
       rintro e w2 ⟨rfl,rfl⟩)
    | (go_at_call 142
       (with_reducible refine (HW4.o _).mono ?_)
       rintro e w2 ⟨rfl,rfl⟩))
   all_goals (
    go_ret
    exact ⟨by rw [HV.o];first | rfl | (rw [hd5];rfl) | (simp;done),by rw [HN.o];exact HB.o⟩)
  ·skip
   cases D3
   ·skip
    go_enter Tryz.func224,Tryz.ntmps224
    go_upto_region 1 with fail
    refine wp_over (fun W=>Hid (W.heap[w.heap.size]? =some (.cells #[.int .i64 dv,.int .i64 sq,.int .i64 kd,.int .i64 dy,.slice a n c,.string p] 92 (0,0)))∧Hid (Below w.heap.size w W)) ⟨heap_alloc_new _ _,(Below.refl _ _).alloc (Nat.le_refl _) _⟩ ?_
    rintro W ⟨HG,HB⟩
    obtain ⟨N,hN⟩:=ex_eq w.heap.size
    rw [hN] at HG HB ⊢
    have HN:=hid hN
    clear hN
    obtain ⟨c0,c1,c2,c3,c4,c5⟩:=row6 HG.o
    go_wp2_with (first
     | (go_at_call 142
        (with_reducible refine (HW1.o _).mono ?_)
        rintro e w2 ⟨rfl,rfl⟩)
     | (go_at_call 142
        (with_reducible refine (HW2.o _).mono ?_)
        rintro e w2 ⟨rfl,rfl⟩)
     | (go_at_call 142
        (with_reducible refine (HW3.o _).mono ?_)
        rintro e w2 ⟨rfl,rfl⟩)
     | (go_at_call 142
        (with_reducible refine (HW4.o _).mono ?_)
        rintro e w2 ⟨rfl,rfl⟩))
    all_goals (
     go_ret
     exact ⟨by rw [HV.o];first | rfl | (rw [hd5];rfl) | (simp;done),by rw [HN.o];exact HB.o⟩)
   ·skip
    cases D4
    ·skip
     go_enter Tryz.func224,Tryz.ntmps224
     go_upto_region 1 with fail
     refine wp_over (fun W=>Hid (W.heap[w.heap.size]? =some (.cells #[.int .i64 dv,.int .i64 sq,.int .i64 kd,.int .i64 dy,.slice a n c,.string p] 92 (0,0)))∧Hid (Below w.heap.size w W)) ⟨heap_alloc_new _ _,(Below.refl _ _).alloc (Nat.le_refl _) _⟩ ?_
     rintro W ⟨HG,HB⟩
     obtain ⟨N,hN⟩:=ex_eq w.heap.size
     rw [hN] at HG HB ⊢
     have HN:=hid hN
     clear hN
     obtain ⟨c0,c1,c2,c3,c4,c5⟩:=row6 HG.o
     go_wp2_with (first
      | (go_at_call 142
         (with_reducible refine (HW1.o _).mono ?_)
         rintro e w2 ⟨rfl,rfl⟩)
      | (go_at_call 142
         (with_reducible refine (HW2.o _).mono ?_)
         rintro e w2 ⟨rfl,rfl⟩)
      | (go_at_call 142
         (with_reducible refine (HW3.o _).mono ?_)
         rintro e w2 ⟨rfl,rfl⟩)
      | (go_at_call 142
         (with_reducible refine (HW4.o _).mono ?_)
         rintro e w2 ⟨rfl,rfl⟩))
     all_goals (
      go_ret
      exact ⟨by rw [HV.o];first | rfl | (rw [hd5];rfl) | (simp;done),by rw [HN.o];exact HB.o⟩)
    ·skip
     by_cases hb:n≤69632
     rotate_left
     ·have hbi: ¬(n:Int)≤69632:=by omega
      have hbg:(69632:Int)<(n:Int):=by omega
      have hd5:decide (n≤69632)=false:=decide_eq_false hb
      go_enter Tryz.func224,Tryz.ntmps224
      go_upto_region 1 with fail
      refine wp_over (fun W=>Hid (W.heap[w.heap.size]? =some (.cells #[.int .i64 dv,.int .i64 sq,.int .i64 kd,.int .i64 dy,.slice a n c,.string p] 92 (0,0)))∧Hid (Below w.heap.size w W)) ⟨heap_alloc_new _ _,(Below.refl _ _).alloc (Nat.le_refl _) _⟩ ?_
      rintro W ⟨HG,HB⟩
      obtain ⟨N,hN⟩:=ex_eq w.heap.size
      rw [hN] at HG HB ⊢
      have HN:=hid hN
      clear hN
      obtain ⟨c0,c1,c2,c3,c4,c5⟩:=row6 HG.o
      go_wp2_with (first
       | (go_at_call 142
          (with_reducible refine (HW1.o _).mono ?_)
          rintro e w2 ⟨rfl,rfl⟩)
       | (go_at_call 142
          (with_reducible refine (HW2.o _).mono ?_)
          rintro e w2 ⟨rfl,rfl⟩)
       | (go_at_call 142
          (with_reducible refine (HW3.o _).mono ?_)
          rintro e w2 ⟨rfl,rfl⟩)
       | (go_at_call 142
          (with_reducible refine (HW4.o _).mono ?_)
          rintro e w2 ⟨rfl,rfl⟩))
      all_goals (
       go_ret
       exact ⟨by rw [HV.o];first | rfl | (rw [hd5];rfl) | (simp;done),by rw [HN.o];exact HB.o⟩)
     have hbi:(n:Int)≤69632:=by omega
     have hbg: ¬(69632:Int)<(n:Int):=by omega
     have hd5:decide (n≤69632)=true:=decide_eq_true hb
     by_cases hq:sq=1
     ·have hqe:(sq==1)=true:=by rw [hq];rfl
      have HQ:=hid hq
      clear hq
      by_cases hp:p.size=0
      ·have HD6:Hid (decide (p.size=if sq=1 then 0 else 32)=true):=hid (by rw [if_pos HQ.o];exact decide_eq_true hp)
       have hps:((p.size:Nat):Int)=0:=by omega
       have hpe:(((p.size:Nat):Int)==0)=true:=by rw [hps];rfl
       clear hp
       go_enter Tryz.func224,Tryz.ntmps224
       go_upto_region 1 with fail
       refine wp_over (fun W=>Hid (W.heap[w.heap.size]? =some (.cells #[.int .i64 dv,.int .i64 sq,.int .i64 kd,.int .i64 dy,.slice a n c,.string p] 92 (0,0)))∧Hid (Below w.heap.size w W)) ⟨heap_alloc_new _ _,(Below.refl _ _).alloc (Nat.le_refl _) _⟩ ?_
       rintro W ⟨HG,HB⟩
       obtain ⟨N,hN⟩:=ex_eq w.heap.size
       rw [hN] at HG HB ⊢
       have HN:=hid hN
       clear hN
       obtain ⟨c0,c1,c2,c3,c4,c5⟩:=row6 HG.o
       go_wp2_with (first
        | (go_at_call 142
           (with_reducible refine (HW1.o _).mono ?_)
           rintro e w2 ⟨rfl,rfl⟩)
        | (go_at_call 142
           (with_reducible refine (HW2.o _).mono ?_)
           rintro e w2 ⟨rfl,rfl⟩)
        | (go_at_call 142
           (with_reducible refine (HW3.o _).mono ?_)
           rintro e w2 ⟨rfl,rfl⟩)
        | (go_at_call 142
           (with_reducible refine (HW4.o _).mono ?_)
           rintro e w2 ⟨rfl,rfl⟩))
       go_ret
       exact ⟨by rw [HV.o,HD6.o,hd5];rfl,by rw [HN.o];exact HB.o⟩
      ·have HD6:Hid (decide (p.size=if sq=1 then 0 else 32)=false):=hid (by rw [if_pos HQ.o];exact decide_eq_false hp)
       have hpe:(((p.size:Nat):Int)==0)=false:=by rw [beq_eq_false_iff_ne];omega
       clear hp
       go_enter Tryz.func224,Tryz.ntmps224
       go_upto_region 1 with fail
       refine wp_over (fun W=>Hid (W.heap[w.heap.size]? =some (.cells #[.int .i64 dv,.int .i64 sq,.int .i64 kd,.int .i64 dy,.slice a n c,.string p] 92 (0,0)))∧Hid (Below w.heap.size w W)) ⟨heap_alloc_new _ _,(Below.refl _ _).alloc (Nat.le_refl _) _⟩ ?_
       rintro W ⟨HG,HB⟩
       obtain ⟨N,hN⟩:=ex_eq w.heap.size
       rw [hN] at HG HB ⊢
       have HN:=hid hN
       clear hN
       obtain ⟨c0,c1,c2,c3,c4,c5⟩:=row6 HG.o
       go_wp2_with (first
        | (go_at_call 142
           (with_reducible refine (HW1.o _).mono ?_)
           rintro e w2 ⟨rfl,rfl⟩)
        | (go_at_call 142
           (with_reducible refine (HW2.o _).mono ?_)
           rintro e w2 ⟨rfl,rfl⟩)
        | (go_at_call 142
           (with_reducible refine (HW3.o _).mono ?_)
           rintro e w2 ⟨rfl,rfl⟩)
        | (go_at_call 142
           (with_reducible refine (HW4.o _).mono ?_)
           rintro e w2 ⟨rfl,rfl⟩))
       go_ret
       exact ⟨by rw [HV.o,HD6.o,hd5];rfl,by rw [HN.o];exact HB.o⟩
     ·have hqe:(sq==1)=false:=by rw [beq_eq_false_iff_ne];exact hq
      have HQ:=hid hq
      clear hq
      by_cases hp:p.size=32
      ·have HD6:Hid (decide (p.size=if sq=1 then 0 else 32)=true):=hid (by rw [if_neg HQ.o];exact decide_eq_true hp)
       have hps:((p.size:Nat):Int)=32:=by omega
       have hpe:(((p.size:Nat):Int)==32)=true:=by rw [hps];rfl
       clear hp
       go_enter Tryz.func224,Tryz.ntmps224
       go_upto_region 1 with fail
       refine wp_over (fun W=>Hid (W.heap[w.heap.size]? =some (.cells #[.int .i64 dv,.int .i64 sq,.int .i64 kd,.int .i64 dy,.slice a n c,.string p] 92 (0,0)))∧Hid (Below w.heap.size w W)) ⟨heap_alloc_new _ _,(Below.refl _ _).alloc (Nat.le_refl _) _⟩ ?_
       rintro W ⟨HG,HB⟩
       obtain ⟨N,hN⟩:=ex_eq w.heap.size
       rw [hN] at HG HB ⊢
       have HN:=hid hN
       clear hN
       obtain ⟨c0,c1,c2,c3,c4,c5⟩:=row6 HG.o
       go_wp2_with (first
        | (go_at_call 142
           (with_reducible refine (HW1.o _).mono ?_)
           rintro e w2 ⟨rfl,rfl⟩)
        | (go_at_call 142
           (with_reducible refine (HW2.o _).mono ?_)
           rintro e w2 ⟨rfl,rfl⟩)
        | (go_at_call 142
           (with_reducible refine (HW3.o _).mono ?_)
           rintro e w2 ⟨rfl,rfl⟩)
        | (go_at_call 142
           (with_reducible refine (HW4.o _).mono ?_)
           rintro e w2 ⟨rfl,rfl⟩))
       go_ret
       exact ⟨by rw [HV.o,HD6.o,hd5];rfl,by rw [HN.o];exact HB.o⟩
      ·have HD6:Hid (decide (p.size=if sq=1 then 0 else 32)=false):=hid (by rw [if_neg HQ.o];exact decide_eq_false hp)
       have hpe:(((p.size:Nat):Int)==32)=false:=by rw [beq_eq_false_iff_ne];omega
       clear hp
       go_enter Tryz.func224,Tryz.ntmps224
       go_upto_region 1 with fail
       refine wp_over (fun W=>Hid (W.heap[w.heap.size]? =some (.cells #[.int .i64 dv,.int .i64 sq,.int .i64 kd,.int .i64 dy,.slice a n c,.string p] 92 (0,0)))∧Hid (Below w.heap.size w W)) ⟨heap_alloc_new _ _,(Below.refl _ _).alloc (Nat.le_refl _) _⟩ ?_
       rintro W ⟨HG,HB⟩
       obtain ⟨N,hN⟩:=ex_eq w.heap.size
       rw [hN] at HG HB ⊢
       have HN:=hid hN
       clear hN
       obtain ⟨c0,c1,c2,c3,c4,c5⟩:=row6 HG.o
       go_wp2_with (first
        | (go_at_call 142
           (with_reducible refine (HW1.o _).mono ?_)
           rintro e w2 ⟨rfl,rfl⟩)
        | (go_at_call 142
           (with_reducible refine (HW2.o _).mono ?_)
           rintro e w2 ⟨rfl,rfl⟩)
        | (go_at_call 142
           (with_reducible refine (HW3.o _).mono ?_)
           rintro e w2 ⟨rfl,rfl⟩)
        | (go_at_call 142
           (with_reducible refine (HW4.o _).mono ?_)
           rintro e w2 ⟨rfl,rfl⟩))
       go_ret
       exact ⟨by rw [HV.o,HD6.o,hd5];rfl,by rw [HN.o];exact HB.o⟩
def headE (q:List Nat):List Nat:=q.flatMap num
theorem headE_snoc (q:List Nat) (k:Nat) (h:k<q.length):headE (q.take (k+1))=headE (q.take k)++num (q.getD k 0):=by
 unfold headE
 rw [List.take_add_one,lE h,lD,lE h,List.flatMap_append]
 show _++(num q[k]++[])=_
 rw [List.append_nil]
 rfl
theorem headE_len (q:List Nat) (h: ∀x ∈ q,x≤1099511627776) (k:Nat):(headE (q.take k)).length≤6*k:=by
 induction k generalizing q with
 | zero=>simp [headE]
 | succ k ih=>
   cases q with
   | nil=>simp [headE]
   | cons x q=>
     have h1:=ih q (fun y hy=>h y (List.mem_cons_of_mem _ hy))
     have h2:=num_len40 (h x (List.mem_cons_self ..))
     unfold headE at h1 ⊢
     rw [List.take_succ_cons,List.flatMap_cons,List.length_append]
     omega
theorem WrAt.len {w:World} {g B:Nat} {bs cs:List Nat} (h:WrAt w g B bs) (e:bs=cs):WrAt w g B cs:=e ▸ h
theorem encE_cat (d0 d1 d2 d3:Nat) (bs:List Nat) (p:ByteArray):headE ([d0,d1,d2,d3].take 4)++(num bs.length++bs)++(num p.size++nb p)=encE ⟨(d0:Int),(d1:Int),(d2:Int),(d3:Int),bs,p⟩:=by
 unfold encE headE
 simp
theorem encode_bad (dv sq kd dy:Int) (a:Option Addr) (n c:Nat) (p:ByteArray) (bs:List Nat) (hn:bs.length=n) (hv:validE ⟨dv,sq,kd,dy,bs,p⟩=false) (w:World):Calls Tryz.prog 156 #[.agg #[.int .i64 dv,.int .i64 sq,.int .i64 kd,.int .i64 dy,.slice a n c,.string p]] w fun e w'=>e= .returned (.tuple #[.slice none 0 0,.int .i64 1])∧Below w.heap.size w w':=by
 have HV:=hid (fun w=>validEnt_any dv sq kd dy a n c p bs hn w)
 rw [hv] at HV
 clear hv hn
 go_enter Tryz.func156,Tryz.ntmps156
 go_upto_region 1 with fail
 refine wp_over (fun W=>Hid (W.heap[w.heap.size]? =some (.cells #[.int .i64 dv,.int .i64 sq,.int .i64 kd,.int .i64 dy,.slice a n c,.string p] 92 (0,0)))∧Hid (Below w.heap.size w W)) ⟨heap_alloc_new _ _,(Below.refl _ _).alloc (Nat.le_refl _) _⟩ ?_
 rintro W ⟨HG,HB⟩
 obtain ⟨N,hN⟩:=ex_eq w.heap.size
 rw [hN] at HG HB ⊢
 have HN:=hid hN
 clear hN
 obtain ⟨c0,c1,c2,c3,c4,c5⟩:=row6 HG.o
 go_wp2_with (first
  | (go_at_call 224
     (refine (HV.o _).mono ?_)
     rintro e w2 ⟨rfl,h2⟩
     have H2:=hid (HB.o.trans (h2.mono (by rw [← HN.o];exact HB.o.size)))
     clear h2 c0 c1 c2 c3 c4 c5))
 go_ret2
 exact ⟨rfl,by rw [HN.o];exact H2.o⟩
theorem encode_ok (d0 d1 d2 d3:Nat) (a:Option Addr) (n c:Nat) (p:ByteArray) (bs:List Nat) (hn:bs.length=n) (hnil:a=none→c=0) (hv:ValidE ⟨(d0:Int),(d1:Int),(d2:Int),(d3:Int),bs,p⟩) (T:List Nat) (hT:encE ⟨(d0:Int),(d1:Int),(d2:Int),(d3:Int),bs,p⟩=T) (w:World) (hB:BytesAt w a bs):Calls Tryz.prog 156 #[.agg #[.int .i64 (d0:Int),.int .i64 (d1:Int),.int .i64 (d2:Int),.int .i64 (d3:Int),.slice a n c,.string p]] w fun e w'=> ∃ad L cap,e= .returned (.tuple #[.slice ad L cap,.int .i64 0])∧T.length=L∧L≤cap∧BytesAt w' ad T∧(ad=none→cap=0)∧(∀x,ad=some x→w.heap.size≤x.block)∧Below w.heap.size w w':=by
 have hva:=fun w=>validEnt_any (d0:Int) (d1:Int) (d2:Int) (d3:Int) a n c p bs hn w
 rw [(validE_iff _).2 hv] at hva
 have HVA:=hid hva
 have HQ:Hid (∀x ∈ [d0,d1,d2,d3],x≤1099511627776):=hid (by
  have h1:=hv.dev1
  have h2:=hv.seq1
  have h3:=hv.kind1
  have h4:=hv.day1
  simp only at h1 h2 h3 h4
  intro x hx
  simp only [List.mem_cons,List.not_mem_nil,or_false] at hx
  rcases hx with rfl | rfl | rfl | rfl<;> omega)
 have HNB:Hid (n≤69632):=hid (by have:=hv.body;simp only at this;omega)
 have HPZ:Hid (p.size≤32):=hid (by have:=hv.prev;simp only at this;rw [this];split<;> omega)
 have HT:Hid (headE ([d0,d1,d2,d3].take 4)++(num n++bs)++(num p.size++nb p)=T):=hid (by rw [← hn,encE_cat,hT])
 have HTL:Hid (T.length≤1048576):=hid (by have:=encE_len hv;rw [hT] at this;omega)
 have HBY:=hid hB
 have HNI:=hid hnil
 have HNL:=hid hn
 clear hv hva hn hB hnil hT
 go_enter Tryz.func156,Tryz.ntmps156
 go_upto_region 1 with fail
 refine wp_over (fun W=>Hid (W.heap[w.heap.size]? =some (.cells #[.int .i64 (d0:Int),.int .i64 (d1:Int),.int .i64 (d2:Int),.int .i64 (d3:Int),.slice a n c,.string p] 92 (0,0)))∧Hid (Below w.heap.size w W)) ⟨heap_alloc_new _ _,(Below.refl _ _).alloc (Nat.le_refl _) _⟩ ?_
 rintro W ⟨HG,HB⟩
 obtain ⟨N,hN⟩:=ex_eq w.heap.size
 rw [hN] at HG HB ⊢
 have HN:=hid hN
 clear hN
 obtain ⟨c0,c1,c2,c3,c4,c5⟩:=row6 HG.o
 have HC:Hid (∀V,Below (N+1) W V→V.cell? ⟨N,0,none⟩=some (.int .i64 (d0:Int))∧V.cell? ⟨N,1,none⟩=some (.int .i64 (d1:Int))∧V.cell? ⟨N,2,none⟩=some (.int .i64 (d2:Int))∧V.cell? ⟨N,3,none⟩=some (.int .i64 (d3:Int))∧V.cell? ⟨N,4,none⟩=some (.slice a n c)∧V.cell? ⟨N,5,none⟩=some (.string p)):=hid (fun V h=>row6 ((h.block N (Nat.lt_succ_self _)).trans HG.o))
 have HWS:Hid (N+1≤W.heap.size):=hid (gS HG.o).1
 have HST:Hid (∀V V',Below (N+1) W V→Below V.heap.size V V'→Below (N+1) W V'):=hid (fun V V' h h'=>h.trans (h'.mono (Nat.le_trans HWS.o h.size)))
 have HEND:Hid (∀V,Below (N+1) W V→Below w.heap.size w V):=hid (fun V h=>by rw [HN.o];exact HB.o.trans (h.mono (Nat.le_succ N)))
 have HR0:Hid (Below (N+1) W W):=hid (Below.refl _ _)
 go_upto_region 4 with (first
  | (go_at_call 224
     (refine (HVA.o _).mono ?_)
     rintro e w2 ⟨rfl,h2⟩
     have H2:=hid (HST.o _ _ HR0.o h2)
     clear h2 c0 c1 c2 c3 c4 c5)
  | (go_at_call 103
     (refine (newWriter_ok _).mono ?_)
     rintro e w3 ⟨g,rfl,hg3,hle3,h3⟩
     have HG3:=hid hg3
     have H3:=hid (HST.o _ _ H2.o h3)
     have HGN:Hid (N+1≤g):=hid (Nat.le_trans (Nat.le_trans HWS.o H2.o.size) hle3)
     clear hg3 h3 hle3))
 obtain ⟨c0,c1,c2,c3,c4,c5⟩:=HC.o _ H3.o
 go_upto_region 5 with fail
 refine wp_over (fun V=>Hid (V.heap[w3.heap.size]? =some (.cells #[.int .i64 (d0:Int),.int .i64 (d1:Int),.int .i64 (d2:Int),.int .i64 (d3:Int)] 3 (0,0)))∧Hid (Below w3.heap.size w3 V)∧Hid (V.heap.size=w3.heap.size+1)) ⟨heap_alloc_new _ _,(Below.refl _ _).alloc (Nat.le_refl _) _,by show _=_;simp⟩ ?_
 rintro W4 ⟨HG4,HB4,HZ4⟩
 have HWR4:Hid (WrAt W4 g (w3.heap.size+1) []):=hid (WrAt.start ((HB4.o.block g (gS HG3.o).1).trans HG3.o) (by have:=(gS HG3.o).1;omega) (by have:=HZ4.o;omega))
 have H4:=hid (HST.o _ _ H3.o HB4.o)
 have HIN4:Hid (IntsAt W4 (some ⟨w3.heap.size,0,none⟩) [d0,d1,d2,d3]):=hid (ints_of_row (zs:=[d0,d1,d2,d3]) HG4.o)
 have HN4:Hid (N+1≤w3.heap.size∧g<w3.heap.size):=hid ⟨Nat.le_trans HWS.o H3.o.size,(gS HG3.o).1⟩
 obtain ⟨N4,hN4⟩:=ex_eq w3.heap.size
 rw [hN4] at HG4 HWR4 HIN4 HN4 ⊢
 clear hN4 HZ4
 -- what a writer's call keeps
 have HM:Hid (∀V V',Below (N+1) W V→Chg (WrM g (N4+1)) V V'→Below (N+1) W V'):=hid (fun V V' h h'=>h.trans (h'.below (Nat.le_trans HWS.o h.size) (fun q i hq hm=>by
  have h1:=HGN.o
  have h2:=HN4.o
  rcases hm with hm | hm<;> omega)))
 have HMI:Hid (∀V V',Chg (WrM g (N4+1)) V V'→ ∀i,i<4→V.cell? ⟨N4,i,none⟩=some (.int .i64 (([d0,d1,d2,d3].getD i 0:Nat):Int))→V'.cell? ⟨N4,i,none⟩=some (.int .i64 (([d0,d1,d2,d3].getD i 0:Nat):Int))):=hid (fun V V' h i hi hc=>h.cell hc (fun hm=>by
  have h2:=HN4.o
  rcases hm with hm | hm<;> omega))
 have HI4:Hid (∀i,i<4→W4.cell? ⟨N4,i,none⟩=some (.int .i64 (([d0,d1,d2,d3].getD i 0:Nat):Int))):=hid (fun i hi=>by
  rcases HIN4.o with h | ⟨b,o,e,h⟩
  ·cases h
  ·cases e
   have:=h i hi
   rwa [Nat.zero_add] at this)
 clear c0 c1 c2 c3 c4 c5
 go_loopw [6,21] (fun _ z wr=> ∃k:Nat,k≤4∧z= .int .i64 (k:Int)∧Hid (WrAt wr g (N4+1) (headE ([d0,d1,d2,d3].take k)))∧Hid (Below (N+1) W wr)∧Hid (∀i,i<4→wr.cell? ⟨N4,i,none⟩=some (.int .i64 (([d0,d1,d2,d3].getD i 0:Nat):Int)))) (fun _ z _=>4 - (intOf z).toNat)
 case atStart=>exact ⟨0,by omega,rfl,HWR4,H4,HI4⟩
 case round=>
  obtain ⟨k,hk,rfl,HWR,HBE,HIC⟩:=hrel
  by_cases hlt:k<4
  ·have hki:(k:Int)<4:=by omega
   have hck:=HIC.o k hlt
   have HDK:Hid ([d0,d1,d2,d3].getD k 0≤1099511627776):=hid (HQ.o _ (getD_mem _ k 0 hlt))
   have HSN:=hid (headE_snoc [d0,d1,d2,d3] k hlt)
   have HHL:=hid (headE_len [d0,d1,d2,d3] HQ.o k)
   obtain ⟨d,hd⟩:=ex_eq ([d0,d1,d2,d3].getD k 0)
   rw [hd] at hck HDK HSN
   clear hd
   have hwu:IntKind.u64.wrap (d:Int)=(d:Int):=by have:=HDK.o;rw [IntKind.wrap_u64];omega
   go_wp2_with (first
    | (go_at_call 105
       (refine (wrUint_ok g (N4+1) _ d (by have:=HDK.o;omega) (by have:=HHL.o;omega) wr HWR.o).mono ?_)
       rintro e w5 ⟨rfl,hw5,h5⟩
       have HW5:=hid (hw5.len HSN.o.symm)
       have H5:=hid (HM.o _ _ HBE.o h5)
       have HI5:=hid (fun i hi=>HMI.o _ _ h5 i hi (HIC.o i hi))
       clear hw5 h5))
   go_roundw
   case rel=>exact ⟨k+1,hlt,by go_num,HW5,H5,HI5⟩
   case measure=>simp [intOf];omega
  ·have hki: ¬(k:Int)<4:=by omega
   have hke:k=4:=by omega
   have HW6:Hid (WrAt wr g (N4+1) (headE ([d0,d1,d2,d3].take 4))):=hid (by rw [← hke];exact HWR.o)
   have HHL:=hid (headE_len [d0,d1,d2,d3] HQ.o 4)
   clear hke
   obtain ⟨c0,c1,c2,c3,c4,c5⟩:=HC.o _ HBE.o
   go_wp2_with (first
    | (go_at_call 225
       (refine (wrBytes_ok g (N4+1) _ a c n bs HNL.o HNI.o (by have:=HHL.o;omega) (by have:=HNB.o;omega) wr HW6.o (HBY.o.later (HEND.o _ HBE.o)) (fun ad e h=>by have h1:=HBY.o.blk ad e h;have h2:=HN4.o;have h3:=HN.o;omega)).mono ?_)
       rintro e w7 ⟨rfl,hw7,h7⟩
       have HW7:=hid hw7
       have H7:=hid (HM.o _ _ HBE.o h7)
       clear hw7 h7 c0 c1 c2 c3 c4 c5
       obtain ⟨c0,c1,c2,c3,c4,c5⟩:=HC.o _ H7.o)
    | (go_at_call 186
       (refine (wrText_ok g (N4+1) _ p p.size rfl (by rw [List.length_append,List.length_append,HNL.o];have:=HHL.o;have:=HNB.o;have:=num_len40 (n:=n) (by have:=HNB.o;omega);omega) (by have:=HPZ.o;omega) w7 HW7.o).mono ?_)
       rintro e w8 ⟨rfl,hw8,h8⟩
       have HW8:=hid (hw8.len HT.o)
       have H8:=hid (HM.o _ _ H7.o h8)
       clear hw8 h8 c0 c1 c2 c3 c4 c5)
    | (go_at_call 108
       (refine (wrDone_ok g (N4+1) T HTL.o w8 HW8.o).mono ?_)
       rintro e w9 ⟨ad,L,cap,rfl,hL9,hle9,hB9,hn9,hb9,h9⟩
       have HL9:=hid hL9
       have HLE9:=hid hle9
       have HB9:=hid hB9
       have HN9:=hid hn9
       have HA9:=hid hb9
       have H9:=hid (HST.o _ _ H8.o h9)
       clear hL9 hle9 hB9 hn9 hb9 h9))
   go_ret2
   exact ⟨ad,L,cap,rfl,HL9.o,HLE9.o,HB9.o,HN9.o,fun x e=>by have h1:=HA9.o x e;have h2:=H8.o.size;have h3:=HWS.o;have h4:=HN.o;omega,HEND.o _ H9.o⟩
theorem sum_bad (dv sq kd dy:Int) (a:Option Addr) (n c:Nat) (p:ByteArray) (bs:List Nat) (hn:bs.length=n) (hv:validE ⟨dv,sq,kd,dy,bs,p⟩=false) (w:World):Calls Tryz.prog 62 #[.agg #[.int .i64 dv,.int .i64 sq,.int .i64 kd,.int .i64 dy,.slice a n c,.string p]] w fun e w'=>e= .returned (.tuple #[.string ByteArray.empty,.int .i64 1])∧Below w.heap.size w w':=by
 have HV:=hid (fun w=>encode_bad dv sq kd dy a n c p bs hn hv w)
 clear hv hn
 go_enter Tryz.func62,Tryz.ntmps62
 go_upto_region 1 with fail
 refine wp_over (fun W=>Hid (W.heap[w.heap.size]? =some (.cells #[.int .i64 dv,.int .i64 sq,.int .i64 kd,.int .i64 dy,.slice a n c,.string p] 92 (0,0)))∧Hid (Below w.heap.size w W)) ⟨heap_alloc_new _ _,(Below.refl _ _).alloc (Nat.le_refl _) _⟩ ?_
 rintro W ⟨HG,HB⟩
 obtain ⟨N,hN⟩:=ex_eq w.heap.size
 rw [hN] at HG HB ⊢
 have HN:=hid hN
 clear hN
 obtain ⟨c0,c1,c2,c3,c4,c5⟩:=row6 HG.o
 go_wp2_with (first
  | (go_at_call 156
     (refine (HV.o _).mono ?_)
     rintro e w2 ⟨rfl,h2⟩
     have H2:=hid (HB.o.trans (h2.mono (by rw [← HN.o];exact HB.o.size)))
     clear h2 c0 c1 c2 c3 c4 c5))
 go_ret2
 exact ⟨rfl,by rw [HN.o];exact H2.o⟩
theorem sum_ok (d0 d1 d2 d3:Nat) (a:Option Addr) (n c:Nat) (p:ByteArray) (bs:List Nat) (hn:bs.length=n) (hnil:a=none→c=0) (hv:ValidE ⟨(d0:Int),(d1:Int),(d2:Int),(d3:Int),bs,p⟩) (T:List Nat) (hT:sumE ⟨(d0:Int),(d1:Int),(d2:Int),(d3:Int),bs,p⟩=T) (w:World) (hB:BytesAt w a bs) (hL:Laid w):Calls Tryz.prog 62 #[.agg #[.int .i64 (d0:Int),.int .i64 (d1:Int),.int .i64 (d2:Int),.int .i64 (d3:Int),.slice a n c,.string p]] w fun e w'=> ∃u:ByteArray,e= .returned (.tuple #[.string u,.int .i64 0])∧nb u=T∧u.size=32∧Below w.heap.size w w':=by
 have HEN:=hid (fun w hB=>encode_ok d0 d1 d2 d3 a n c p bs hn hnil hv _ rfl w hB)
 have HEL:=hid (encE_len hv)
 have HTT:Hid (Sha.sum (encE ⟨(d0:Int),(d1:Int),(d2:Int),(d3:Int),bs,p⟩)=T):=hid hT
 obtain ⟨T0,hT0⟩:=ex_eq (encE ⟨(d0:Int),(d1:Int),(d2:Int),(d3:Int),bs,p⟩)
 rw [hT0] at HEN HEL HTT
 have HBY:=hid hB
 have HL:=hid hL
 clear hv hn hB hnil hT hT0 hL
 go_enter Tryz.func62,Tryz.ntmps62
 go_upto_region 1 with fail
 refine wp_over (fun W=>Hid (W.heap[w.heap.size]? =some (.cells #[.int .i64 (d0:Int),.int .i64 (d1:Int),.int .i64 (d2:Int),.int .i64 (d3:Int),.slice a n c,.string p] 92 (0,0)))∧Hid (Below w.heap.size w W)) ⟨heap_alloc_new _ _,(Below.refl _ _).alloc (Nat.le_refl _) _⟩ ?_
 rintro W ⟨HG,HB⟩
 obtain ⟨N,hN⟩:=ex_eq w.heap.size
 rw [hN] at HG HB ⊢
 have HN:=hid hN
 clear hN
 obtain ⟨c0,c1,c2,c3,c4,c5⟩:=row6 HG.o
 have HNS:Hid (N≤W.heap.size):=hid (by rw [← HN.o];exact HB.o.size)
 have HB1:Hid (Below w.heap.size w W):=hid (by rw [HN.o];exact HB.o)
 go_wp2_with (first
  | (go_at_call 156
     (refine (HEN.o _ (HBY.o.later HB1.o)).mono ?_)
     rintro e w2 ⟨ad,L,cap,rfl,hL2,hle2,hB2,hn2,hb2,h2⟩
     have HL2:=hid hL2
     have HLE2:=hid hle2
     have HB2:=hid hB2
     have HN2:=hid hn2
     have HA2:Hid (∀x,ad=some x→T0≠[]→w.heap.size≤x.block):=hid (fun x e _=>Nat.le_trans HB1.o.size (hb2 x e))
     have H2:=hid (HB1.o.trans (h2.mono HB1.o.size))
     clear hL2 hle2 hB2 hn2 hb2 h2 c0 c1 c2 c3 c4 c5)
  | (go_at_call 157
     (refine (sum_l ad cap T0 L HL2.o (by rw [HL2.o];exact HLE2.o) HN2.o (by have:=HEL.o;omega) w2 HB2.o (fun x e h=>HB2.o.blk x e (by intro h0;rw [h0] at h;simp at h)) (HL.o.later H2.o (Nat.le_refl _))).mono ?_)
     rintro e w3 ⟨u3,rfl,hu3,h3⟩
     have HU3:=hid hu3
     have H3:=hid (H2.o.trans (h3.mono H2.o.size))
     clear hu3 h3))
 go_ret2
 exact ⟨u3,rfl,by rw [HU3.o,HTT.o],by rw [← nb_length,HU3.o];exact Sha.sum_length _,H3.o⟩
end Go.Proofs.YtndlihclgdkpaaaGreatDoor
namespace Go.Proofs.YtndlihclgdkpaaaGreatDoor
namespace Kit
inductive TP where
 | done:TP
 | head:Nat→TP→TP
 | op1:Nat→TP→TP
 | op2:Nat→TP→Nat→TP→TP
def TP.depth:TP→Nat
 | .done=>0
 | .head _ r=>r.depth+1
 | .op1 _ r=>r.depth+1
 | .op2 _ r _ _=>r.depth+1
def TP.heads:List Nat→TP→TP
 | [],r=>r
 | i::l,r=> .head i (heads l r)
section
variable {P:Program} {md:Region.Mode} {Q:Exit→Act→World→Prop} {S:World→Prop}
def tplan (P:Program) (Q:Exit→Act→World→Prop) (S:World→Prop) (l:List Oper):TP→Act→World→Prop
 | .done,a,w=>Q .normal a w
 | .head i r,a,w=> ∃o,l[i]? =some o∧ ∃v,YieldsIf P l.toArray S o v a∧tplan P Q S l r (a.put o.dst v) w
 | .op1 i r,a,w=> ∃o,l[i]? =some o∧Region.wanted o (yielded l.toArray a.tmps)=true∧ ∀K:Act→World→Prop,(∀a w,S w→tplan P Q S l r a w→K a w)→o.wp P a w K Q
 | .op2 i r j s,a,w=>(∃o,l[i]? =some o∧Region.wanted o (yielded l.toArray a.tmps)=true∧ ∀K:Act→World→Prop,(∀a w,S w→tplan P Q S l r a w→K a w)→o.wp P a w K Q)∧
     ∃o,l[j]? =some o∧Region.wanted o (yielded l.toArray a.tmps)=true∧ ∀K:Act→World→Prop,(∀a w,S w→tplan P Q S l s a w→K a w)→o.wp P a w K Q
def tplanOk (md:Region.Mode) (ops:Array Oper):TP→Array Bool→Bool
 | .done,listed=>(Region.ready md ops listed).isEmpty
 | .head i r,listed=>Region.free md ops listed i && (Region.ready md ops listed).contains i && tplanOk md ops r (listed.setIfInBounds i true)
 | .op1 i r,listed=>decide (Region.ready md ops listed=[i]) && tplanOk md ops r (listed.setIfInBounds i true)
 | .op2 i r j s,listed=>decide (Region.ready md ops listed=[i,j]) && decide (r.depth=s.depth) && tplanOk md ops r (listed.setIfInBounds i true) && tplanOk md ops s (listed.setIfInBounds j true)
theorem any_of_tplan {l:List Oper} (hsel:Region.noSelect l.toArray=true) (hQ: ∀c a d v w,Q (.panic c) (a.put d v) w→Q (.panic c) a w):
    ∀(t:TP) (listed:Array Bool) (a:Act) (w:World),S w→tplanOk md l.toArray t listed=true→tplan P Q S l t a w→wpAnyH P md l.toArray Q S t.depth listed a w
 | .done,listed,a,w,_,hB,h=>by
   simp only [tplanOk,List.isEmpty_iff] at hB
   exact wpAnyH_done hB h 0
 | .head i r,listed,a,w,hS,hB,h=>by
   simp only [tplanOk,Bool.and_eq_true] at hB
   obtain ⟨o,ho,v,hy,hr⟩:=h
   exact wpAnyH_take (by simpa using ho) hsel hB.1.1 hB.1.2 (fun c a w=>hQ c a _ v w) hy hS (any_of_tplan hsel hQ r _ _ _ hS hB.2 hr)
 | .op1 i r,listed,a,w,hS,hB,h=>by
   simp only [tplanOk,Bool.and_eq_true,decide_eq_true_eq] at hB
   obtain ⟨o,ho,hg,hw⟩:=h
   refine wpAnyH_all hB.1 (by simp) ?_
   intro j hj
   have hji:j=i:=by simpa using hj
   subst hji
   have ho':l.toArray[j]? =some o:=by simpa using ho
   unfold wpOp
   rw [ho']
   show if Region.wanted o (yielded l.toArray a.tmps)=true then _ else _
   rw [if_pos hg]
   exact .inl (hw _ fun a w hS hc=>⟨hS,any_of_tplan hsel hQ r _ a w hS hB.2 hc⟩)
 | .op2 i r j s,listed,a,w,hS,hB,h=>by
   simp only [tplanOk,Bool.and_eq_true,decide_eq_true_eq] at hB
   obtain ⟨⟨⟨hr,hd⟩,hB1⟩,hB2⟩:=hB
   obtain ⟨⟨o,ho,hg,hw⟩,⟨o2,ho2,hg2,hw2⟩⟩:=h
   refine wpAnyH_all hr (by simp) ?_
   intro k hk
   have hki:k=i∨k=j:=by simpa using hk
   rcases hki with rfl | rfl
   ·have ho':l.toArray[k]? =some o:=by simpa using ho
    unfold wpOp
    rw [ho']
    show if Region.wanted o (yielded l.toArray a.tmps)=true then _ else _
    rw [if_pos hg]
    exact .inl (hw _ fun a w hS hc=>⟨hS,any_of_tplan hsel hQ r _ a w hS hB1 hc⟩)
   ·have ho':l.toArray[k]? =some o2:=by simpa using ho2
    unfold wpOp
    rw [ho']
    show if Region.wanted o2 (yielded l.toArray a.tmps)=true then _ else _
    rw [if_pos hg2]
    refine .inl (hw2 _ fun a w hS hc=>⟨hS,?_⟩)
    have h:=any_of_tplan hsel hQ s _ a w hS hB2 hc
    rw [← hd] at h
    exact h
theorem wp_region_tplan {id:Nat} {a:Act} {w:World} {l:List Oper} (S:World→Prop) (t:TP) (hm:P.follows .mixedOrders=true) (hsel:Region.noSelect l.toArray=true) (hn:l.length=t.depth)
    (hB:tplanOk .any l.toArray t (Array.replicate l.length false)=true) (hS:S w.drew)
    (h:tplan P (NoPanic Q) S l t a w.drew):(Code.region id l.toArray true).wp P Q a w:=by
 refine wp_region_noPanic (wp_region_held (S:=S) hm ?_)
 have H:=any_of_tplan hsel (fun _ _ _ _ _ h=>h) t _ _ _ hS hB h
 rw [← hn] at H
 have e:l.toArray.size=l.length:=List.size_toArray
 rw [e]
 exact H
theorem tplan_done {l:List Oper} {a:Act} {w:World} (h:Q .normal a w):tplan P (NoPanic Q) S l .done a w:=h
theorem tplan_head {l:List Oper} {a:Act} {w:World} {i:Nat} {rest:TP} {o:Oper} {v:Value} (ho:l[i]? =some o) (hy:YieldsIf P l.toArray S o v a) (h:tplan P Q S l rest (a.put o.dst v) w):tplan P Q S l (.head i rest) a w:=⟨o,ho,v,hy,h⟩
theorem thd {l:List Oper} {a a':Act} {w:World} {i:Nat} {rest:TP} {o:Oper} {v:Value} (ho:l[i]? =some o:=by rfl) (hy:YieldsIf P l.toArray S o v a:=by first | exact .inr ⟨by rfl,rfl⟩ | exact .inl ⟨by rfl,fun w' hS=>by (dsimp only at hS);go_simp;(try with_reducible rfl)⟩) (ha:a.put o.dst v=a':=by (try simp only [Act.put,List.setIfInBounds_toArray,List.set_cons_zero,List.set_cons_succ]);rfl) (h:tplan P Q S l rest a' w):tplan P Q S l (.head i rest) a w:=by subst ha;exact tplan_head ho hy h
theorem tplan_op1 {l:List Oper} {a:Act} {w:World} {i:Nat} {rest:TP} {o:Oper} (ho:l[i]? =some o) (hg:Region.wanted o (yielded l.toArray a.tmps)=true) (h: ∀K:Act→World→Prop,(∀a w,S w→tplan P Q S l rest a w→K a w)→o.wp P a w K Q):tplan P Q S l (.op1 i rest) a w:=⟨o,ho,hg,h⟩
theorem tplan_op2 {l:List Oper} {a:Act} {w:World} {i j:Nat} {r s:TP} (h1:tplan P Q S l (.op1 i r) a w) (h2:tplan P Q S l (.op1 j s) a w):tplan P Q S l (.op2 i r j s) a w:=⟨h1,h2⟩
end
end Kit
end Go.Proofs.YtndlihclgdkpaaaGreatDoor
namespace Go.Proofs.YtndlihclgdkpaaaGreatDoor
open Go.RowKit
open Kit (Chg)
open Sha (v)
open Go.Proofs.YtndlihclgdkpaaaGreatDoor.One

def EntAt (w:World) (b o:Nat) (e:Ent):Prop:= ∃a n c,e.body.length=n∧(a=none→c=0)∧BytesAt w a e.body∧w.cell? ⟨b,o,none⟩=some (.int .i64 e.dev)∧w.cell? ⟨b,o+1,none⟩=some (.int .i64 e.seq)∧w.cell? ⟨b,o+2,none⟩=some (.int .i64 e.kind)∧w.cell? ⟨b,o+3,none⟩=some (.int .i64 e.day)∧w.cell? ⟨b,o+4,none⟩=some (.slice a n c)∧w.cell? ⟨b,o+5,none⟩=some (.string e.prev)
def EntsAt (w:World) (a:Option Addr) (es:List Ent):Prop:=es=[]∨ ∃b o,a=some ⟨b,o,none⟩∧ ∀i,(h:i<es.length)→EntAt w b (o+i*6) es[i]
theorem EntAt.later {w w':World} {b o:Nat} {e:Ent} (h:EntAt w b o e) (hb:Below w.heap.size w w'):EntAt w' b o e:=by
 obtain ⟨a,n,c,h1,h2,h3,c0,c1,c2,c3,c4,c5⟩:=h
 have k: ∀{j:Nat} {x:Value},w.cell? ⟨b,j,none⟩=some x→w'.cell? ⟨b,j,none⟩=some x:=fun h=>(hb.cell (World.block_lt_of_cell? w _ h)).trans h
 exact ⟨a,n,c,h1,h2,h3.later hb,k c0,k c1,k c2,k c3,k c4,k c5⟩
theorem EntsAt.later {w w':World} {a:Option Addr} {es:List Ent} (h:EntsAt w a es) (hb:Below w.heap.size w w'):EntsAt w' a es:=by
 rcases h with h | ⟨b,o,e,h⟩
 ·exact .inl h
 ·exact .inr ⟨b,o,e,fun i hi=>(h i hi).later hb⟩
def put6 (w:World) (A o:Nat) (x0 x1 x2 x3 x4 x5:Value):World:=(((((w.setCell ⟨A,o,none⟩ x0).setCell ⟨A,o+1,none⟩ x1).setCell ⟨A,o+2,none⟩ x2).setCell ⟨A,o+3,none⟩ x3).setCell ⟨A,o+4,none⟩ x4).setCell ⟨A,o+5,none⟩ x5
structure EV where
 e:Ent
 a:Option Addr
 c:Nat
def EV.cells (x:EV):List Value:=[.int .i64 x.e.dev,.int .i64 x.e.seq,.int .i64 x.e.kind,.int .i64 x.e.day,.slice x.a x.e.body.length x.c,.string x.e.prev]
def sixes {α:Type} (f:α→List Value):List α→List Value
 | []=>[]
 | x::l=>f x++sixes f l
section
variable {α:Type} {f:α→List Value} (hf: ∀x,(f x).length=6)
include hf
theorem sixes_len: ∀l:List α,(sixes f l).length=l.length*6
 | []=>rfl
 | x::l=>by
   rw [sixes,List.length_append,sixes_len l,List.length_cons,hf]
   omega
theorem sixes_get: ∀(l:List α) (i:Nat) (hi:i<l.length) (j:Nat),j<6→(sixes f l)[i*6+j]? =(f l[i])[j]?
 | [],i,hi,j,hj=>by simp at hi
 | x::l,0,hi,j,hj=>by
   rw [sixes,List.getElem?_append_left (by rw [hf];omega),Nat.zero_mul,Nat.zero_add]
   rfl
 | x::l,i+1,hi,j,hj=>by
   rw [sixes,List.getElem?_append_right (by rw [hf];omega),hf,show (i+1)*6+j - 6=i*6+j by omega]
   exact sixes_get l i (by simpa using hi) j hj
theorem sixes_take: ∀(l:List α) (n:Nat),(sixes f l).take (n*6)=sixes f (l.take n)
 | [],n=>by simp [sixes]
 | x::l,0=>by simp [sixes]
 | x::l,n+1=>by
   rw [sixes,List.take_succ_cons,sixes,List.take_append,hf,show (n+1)*6 - 6=n*6 by omega,sixes_take l n,List.take_of_length_le (by rw [hf];omega)]
end
theorem sixes_app {α:Type} {f:α→List Value}: ∀l m:List α,sixes f (l++m)=sixes f l++sixes f m
 | [],m=>rfl
 | x::l,m=>by rw [List.cons_append,sixes,sixes,sixes_app l m,List.append_assoc]
theorem sixes_one {α:Type} {f:α→List Value} (h: ∀x,∀v ∈ f x,v.oneCell'=true): ∀l:List α,∀v ∈ sixes f l,v.oneCell'=true
 | [],v,hv=>by simp [sixes] at hv
 | x::l,v,hv=>by
   rw [sixes,List.mem_append] at hv
   rcases hv with hv | hv
   ·exact h x v hv
   ·exact sixes_one h l v hv
theorem sixes_cells {α:Type} {f:α→List Value} (hf: ∀x,(f x).length=6) {w:World} {base n:Nat} {T:TypeId} {v:Value} {xs:List α} (h:w.ownsRow base T 6 v n (sixes f xs)):n=xs.length∧ ∃a cap,v= .slice a n cap∧n≤cap∧cap≤maxLen∧(a=none→cap=0)∧ ∀(i:Nat) (hi:i<xs.length),∃b,a=some ⟨b,0,none⟩∧base≤b∧ ∀j,j<6→w.cell? ⟨b,i*6+j,none⟩=(f xs[i])[j]? :=by
 obtain ⟨hl,hv⟩:=h
 have hn:n=xs.length:=by rw [sixes_len hf] at hl;omega
 refine ⟨hn,?_⟩
 rcases hv with ⟨rfl,h0⟩ | ⟨g,cap,cur,rfl,hbg,hg,hnc,hcm,hcs,htake⟩
 ·exact ⟨none,0,by rw [h0],by omega,Nat.zero_le _,fun _=>rfl,fun i hi=>by omega⟩
 ·refine ⟨some ⟨g,0,none⟩,cap,rfl,hnc,hcm,(fun e=>by cases e),fun i hi=>⟨g,rfl,hbg,fun j hj=> ?_⟩⟩
  rw [cell_of_row _ _ _ _ _ _ hg,← sixes_get hf xs i hi j hj,← htake,List.getElem?_take_of_lt (by omega)]
  simp
def evs (l:List EV):List Value:=sixes EV.cells l
theorem evs_len (l:List EV):(evs l).length=l.length*6:=sixes_len (fun _=>rfl) l
theorem EV.one (x:EV): ∀v ∈ x.cells,v.oneCell'=true:=fun v h=>by
 simp only [EV.cells,List.mem_cons,List.not_mem_nil,or_false] at h
 rcases h with rfl | rfl | rfl | rfl | rfl | rfl<;> rfl
theorem evs_one (l:List EV): ∀v ∈ evs l,v.oneCell'=true:=sixes_one EV.one l
def EV.ok (w:World) (G:Nat→Nat) (x:EV):Prop:=(x.a=none→x.c=0)∧BytesAt w x.a x.e.body∧(x.e.body≠[]→ ∀ad,x.a=some ad→G ad.block=0)

structure Step (G G':Nat→Nat) (T:Nat→Prop) (w w':World):Prop where
 chg:Chg (fun k _=>T (G k)) w w'
 tag: ∀k,k<w.heap.size→G' k=G k
theorem Step.of_below {w w':World} (h:Below w.heap.size w w') (G:Nat→Nat) (T:Nat→Prop):Step G G T w w':=⟨Chg.of_below h,fun _ _=>rfl⟩
theorem Step.trans {G G' G'':Nat→Nat} {T:Nat→Prop} {w w' w'':World} (h:Step G G' T w w') (k:Step G' G'' T w' w''):Step G G'' T w w'':=by
 refine ⟨?_,fun q hq=>(k.tag q (Nat.lt_of_lt_of_le hq h.chg.size)).trans (h.tag q hq)⟩
 have h1:Chg (fun k _=>T (G k)∨w.heap.size≤k) w w':=h.chg.mono fun q i hq hm=> .inl hm
 have h2:Chg (fun k _=>T (G k)∨w.heap.size≤k) w' w'':=k.chg.mono fun q i hq hm=>by
  by_cases hlt:q<w.heap.size
  ·exact .inl (by rw [← h.tag q hlt];exact hm)
  ·exact .inr (Nat.le_of_not_lt hlt)
 exact (h1.trans h2).mono fun q i hq hm=>hm.resolve_right (by omega)
theorem Step.later {G G':Nat→Nat} {T:Nat→Prop} {w w' w'':World} (h:Step G G' T w w') (k:Below w'.heap.size w' w''):Step G G' T w w'':=h.trans (Step.of_below k G' T)
theorem Step.mono {G G':Nat→Nat} {T T':Nat→Prop} {w w':World} (h:Step G G' T w w') (hT: ∀t,T t→T' t):Step G G' T' w w':=⟨h.chg.mono fun _ _ _ hm=>hT _ hm,h.tag⟩
structure Own (w:World) (G:Nat→Nat) (N:Nat):Prop where
 lo: ∀k,k<N→G k=0∨G k=7
 hi: ∀k,w.heap.size≤k→G k=0
 size:N≤w.heap.size
theorem Own.later {w w':World} {G:Nat→Nat} {N:Nat} (h:Own w G N) (hs:w.heap.size≤w'.heap.size):Own w' G N:=⟨h.lo,fun k hk=>h.hi k (Nat.le_trans hs hk),Nat.le_trans h.size hs⟩
theorem Step.below {G G':Nat→Nat} {T:Nat→Prop} {w w':World} {N:Nat} (h:Step G G' T w w') (hO:Own w G N) (hT: ¬T 0) (hT7: ¬T 7):Below N w w':=h.chg.below hO.size fun k i hk hm=>by
 rcases hO.lo k hk with e | e
 ·rw [e] at hm;exact hT hm
 ·rw [e] at hm;exact hT7 hm
theorem bytes_step {w w':World} {G G':Nat→Nat} {T:Nat→Prop} {a:Option Addr} {bs:List Nat} (h:BytesAt w a bs) (hg:bs≠[]→ ∀ad,a=some ad→G ad.block=0) (hs:Step G G' T w w') (hT: ¬T 0):BytesAt w' a bs∧(bs≠[]→ ∀ad,a=some ad→G' ad.block=0):=by
 refine ⟨⟨?_,h.2⟩,fun hne ad e=>by rw [hs.tag _ (h.blk ad e hne)];exact hg hne ad e⟩
 rcases h.1 with e | ⟨b,o,e,hcell⟩
 ·exact .inl e
 ·refine .inr ⟨b,o,e,fun i hi=>hs.chg.cell (hcell i hi) (fun hm=>hT ?_)⟩
  have h1:=hg (by intro h0;rw [h0] at hi;simp at hi) _ e
  simp only at h1
  rw [h1] at hm
  exact hm
theorem EV.ok.step {w w':World} {G G':Nat→Nat} {T:Nat→Prop} {x:EV} (h:x.ok w G) (hs:Step G G' T w w') (hT: ¬T 0):x.ok w' G':=by
 obtain ⟨h1,h2,h3⟩:=h
 obtain ⟨k1,k2⟩:=bytes_step h2 h3 hs hT
 exact ⟨h1,k1,k2⟩
theorem own_step {w w':World} {G G':Nat→Nat} {T:Nat→Prop} {base e size n:Nat} {v:Value} {xs:List Value} {t:Nat} (h:w.ownsRow base e size v n xs) (ht: ∀b,v.ownBlock=some b→G b=t) (hs:Step G G' T w w') (hT: ¬T t):w'.ownsRow base e size v n xs∧ ∀b,v.ownBlock=some b→G' b=t:=by
 refine ⟨ownsRow_keepM h hs.chg (fun g hg i hm=>hT (by rw [ht g hg] at hm;exact hm)),fun b hb=> ?_⟩
 rw [hs.tag b (World.ownsRow.lt h b hb).2]
 exact ht b hb
def LogAt (w:World) (G:Nat→Nat) (t:Nat) (v:Value) (es:List Ent):Prop:= ∃xs:List EV,xs.map EV.e=es∧w.ownsRow 0 92 6 v es.length (evs xs)∧(∀b,v.ownBlock=some b→G b=t)∧ ∀x ∈ xs,x.ok w G
theorem LogAt.step {w w':World} {G G':Nat→Nat} {T:Nat→Prop} {t:Nat} {v:Value} {es:List Ent} (h:LogAt w G t v es) (hs:Step G G' T w w') (h0: ¬T 0) (ht: ¬T t):LogAt w' G' t v es:=by
 obtain ⟨xs,h1,h2,h3,h4⟩:=h
 obtain ⟨k1,k2⟩:=own_step h2 h3 hs ht
 exact ⟨xs,h1,k1,k2,fun x hx=>(h4 x hx).step hs h0⟩
theorem ent_of_ev {w:World} {G:Nat→Nat} {b o:Nat} {x:EV} (hx:x.ok w G) (hc: ∀j,j<6→w.cell? ⟨b,o+j,none⟩=x.cells[j]?):EntAt w b o x.e:=
 ⟨x.a,x.e.body.length,x.c,rfl,hx.1,hx.2.1,hc 0 (by decide),hc 1 (by decide),hc 2 (by decide),hc 3 (by decide),hc 4 (by decide),hc 5 (by decide)⟩
theorem LogAt.ents {w:World} {G:Nat→Nat} {t:Nat} {v:Value} {es:List Ent} (h:LogAt w G t v es): ∃a cap,v= .slice a es.length cap∧es.length≤cap∧cap≤maxLen∧(a=none→cap=0)∧EntsAt w a es∧ ∀ad,a=some ad→ad.off=0∧G ad.block=t:=by
 obtain ⟨xs,h1,h2,h3,h4⟩:=h
 obtain ⟨hn,a,cap,rfl,h5,h6,h7,h8⟩:=sixes_cells (fun _=>rfl) h2
 have h9: ∀ad,a=some ad→ad.off=0∧G ad.block=t:=fun ad e=>by
  rcases h2.2 with ⟨hh,_⟩ | ⟨g,cap',cur,hh,_⟩
  ·injection hh with hh _ _
   rw [hh] at e
   cases e
  ·injection hh with hh _ _
   subst hh
   cases e
   exact ⟨rfl,h3 g rfl⟩
 refine ⟨a,cap,rfl,h5,h6,h7,?_,h9⟩
 subst h1
 by_cases hz:xs=[]
 ·subst hz;exact .inl rfl
 ·obtain ⟨b,hb,_,_⟩:=h8 0 (by cases xs with | nil=>exact absurd rfl hz | cons x l=>simp)
  refine .inr ⟨b,0,hb,fun i hi=> ?_⟩
  have hi':i<xs.length:=by simpa using hi
  obtain ⟨b',hb',_,hc⟩:=h8 i hi'
  obtain rfl:b'=b:=by rw [hb] at hb';cases hb';rfl
  rw [List.getElem_map,Nat.zero_add]
  exact ent_of_ev (h4 _ (List.getElem_mem hi')) hc

structure Hd where
 dev:Int
 seq:Int
 sum:ByteArray
 idx:Int
 ps:List ByteArray
 qs:List ByteArray
def Hd.zero:Hd:=⟨0,0,ByteArray.empty,0,[],[]⟩
structure HV where
 h:Hd
 a1:Option Addr
 c1:Nat
 a2:Option Addr
 c2:Nat
def HV.cells (x:HV):List Value:=[.int .i64 x.h.dev,.int .i64 x.h.seq,.string x.h.sum,.int .i64 x.h.idx,.slice x.a1 x.h.ps.length x.c1,.slice x.a2 x.h.qs.length x.c2]
theorem HV.one (x:HV): ∀v ∈ x.cells,v.oneCell'=true:=fun v h=>by
 simp only [HV.cells,List.mem_cons,List.not_mem_nil,or_false] at h
 rcases h with rfl | rfl | rfl | rfl | rfl | rfl<;> rfl
def hvs (l:List HV):List Value:=sixes HV.cells l
def HV.ok (w:World) (G:Nat→Nat) (x:HV):Prop:=StrsAt w x.a1 x.h.ps∧StrsAt w x.a2 x.h.qs∧(x.h.ps≠[]→ ∀ad,x.a1=some ad→G ad.block=0)∧(x.h.qs≠[]→ ∀ad,x.a2=some ad→G ad.block=0)
theorem strs_step {w w':World} {G G':Nat→Nat} {T:Nat→Prop} {a:Option Addr} {ss:List ByteArray} (h:StrsAt w a ss) (hg:ss≠[]→ ∀ad,a=some ad→G ad.block=0) (hs:Step G G' T w w') (hT: ¬T 0):StrsAt w' a ss∧(ss≠[]→ ∀ad,a=some ad→G' ad.block=0):=by
 rcases h with e | ⟨b,o,e,h⟩
 ·exact ⟨.inl e,fun hne=>absurd e hne⟩
 ·subst e
  by_cases hz:ss=[]
  ·exact ⟨.inl hz,fun hne=>absurd hz hne⟩
  ·have h0:0<ss.length:=by cases ss with | nil=>exact absurd rfl hz | cons x l=>simp
   have h1:=hg hz _ rfl
   simp only at h1
   refine ⟨.inr ⟨b,o,rfl,fun i hi=>hs.chg.cell (h i hi) (fun hm=>hT (by rw [h1] at hm;exact hm))⟩,fun _ ad e=> ?_⟩
   cases e
   rw [hs.tag b (World.block_lt_of_cell? w _ (h 0 h0))]
   exact h1
theorem HV.ok.step {w w':World} {G G':Nat→Nat} {T:Nat→Prop} {x:HV} (h:x.ok w G) (hs:Step G G' T w w') (hT: ¬T 0):x.ok w' G':=by
 obtain ⟨h3,h4,h5,h6⟩:=h
 obtain ⟨k1,k2⟩:=strs_step h3 h5 hs hT
 obtain ⟨k3,k4⟩:=strs_step h4 h6 hs hT
 exact ⟨k1,k3,k2,k4⟩
structure Frk where
 dev:Int
 l0:List Ent
 l1:List Ent
 h0:Hd
 h1:Hd
structure Lin where
 pub:ByteArray
 log:List Ent
 sealed':Nat
 head:Hd
 fork:Option Frk
def lineRow (pub:ByteArray) (vl vs:Value) (sd:Int) (h:HV) (fk:Bool) (f0 f1 f2 f3 f4 f5 f6 f7 f8 f9 f10 f11 f12 f13 f14:Value):Array Value:=
 #[.string pub,vl,vs,.int .i64 sd,.int .i64 h.h.dev,.int .i64 h.h.seq,.string h.h.sum,.int .i64 h.h.idx,.slice h.a1 h.h.ps.length h.c1,.slice h.a2 h.h.qs.length h.c2,.bool fk,f0,f1,f2,f3,f4,f5,f6,f7,f8,f9,f10,f11,f12,f13,f14]
def ForkAt (w:World) (G:Nat→Nat) (f:Option Frk) (f0 f1 f2 f3 f4 f5 f6 f7 f8 f9 f10 f11 f12 f13 f14:Value):Prop:=
 match f with
 | none=>True
 | some f=>f0= .int .i64 f.dev∧LogAt w G 0 f1 f.l0∧LogAt w G 0 f2 f.l1∧ ∃x0 x1:HV,x0.h=f.h0∧x1.h=f.h1∧x0.ok w G∧x1.ok w G∧[f3,f4,f5,f6,f7,f8]=x0.cells∧[f9,f10,f11,f12,f13,f14]=x1.cells
theorem ForkAt.step {w w':World} {G G':Nat→Nat} {T:Nat→Prop} {f:Option Frk} {f0 f1 f2 f3 f4 f5 f6 f7 f8 f9 f10 f11 f12 f13 f14:Value} (h:ForkAt w G f f0 f1 f2 f3 f4 f5 f6 f7 f8 f9 f10 f11 f12 f13 f14) (hs:Step G G' T w w') (hT: ¬T 0):ForkAt w' G' f f0 f1 f2 f3 f4 f5 f6 f7 f8 f9 f10 f11 f12 f13 f14:=by
 cases f with
 | none=>trivial
 | some f=>
   obtain ⟨h1,h2,h3,x0,x1,h4,h5,h6,h7,h8,h9⟩:=h
   exact ⟨h1,h2.step hs hT hT,h3.step hs hT hT,x0,x1,h4,h5,h6.step hs hT,h7.step hs hT,h8,h9⟩
structure LineR (w:World) (G:Nat→Nat) (t g:Nat) (l:Lin) (vl vs:Value) (ss:List ByteArray) (h:HV) (f0 f1 f2 f3 f4 f5 f6 f7 f8 f9 f10 f11 f12 f13 f14:Value):Prop where
 row:w.heap[g]? =some (.cells (lineRow l.pub vl vs (l.sealed':Int) h l.fork.isSome f0 f1 f2 f3 f4 f5 f6 f7 f8 f9 f10 f11 f12 f13 f14) 222 (0,0))
 tag:G g=t
 log:LogAt w G t vl l.log
 sums:w.ownsRow 0 9 1 vs l.log.length (strV ss)
 stag: ∀b,vs.ownBlock=some b→G b=t
 sumE:ss.map nb=l.log.map sumE
 head:h.h=l.head
 hok:h.ok w G
 fork:ForkAt w G l.fork f0 f1 f2 f3 f4 f5 f6 f7 f8 f9 f10 f11 f12 f13 f14
def LineAt (w:World) (G:Nat→Nat) (t g:Nat) (l:Lin):Prop:= ∃vl vs ss h f0 f1 f2 f3 f4 f5 f6 f7 f8 f9 f10 f11 f12 f13 f14,LineR w G t g l vl vs ss h f0 f1 f2 f3 f4 f5 f6 f7 f8 f9 f10 f11 f12 f13 f14
theorem LineR.step {w w':World} {G G':Nat→Nat} {T:Nat→Prop} {t g:Nat} {l:Lin} {vl vs:Value} {ss:List ByteArray} {x:HV} {f0 f1 f2 f3 f4 f5 f6 f7 f8 f9 f10 f11 f12 f13 f14:Value} (h:LineR w G t g l vl vs ss x f0 f1 f2 f3 f4 f5 f6 f7 f8 f9 f10 f11 f12 f13 f14) (hs:Step G G' T w w') (h0: ¬T 0) (ht: ¬T t):LineR w' G' t g l vl vs ss x f0 f1 f2 f3 f4 f5 f6 f7 f8 f9 f10 f11 f12 f13 f14:=by
 have hg:g<w.heap.size:=(gS h.row).1
 obtain ⟨k1,k2⟩:=own_step h.sums h.stag hs ht
 exact ⟨(hs.chg.other g hg (fun i hm=>ht (by rw [h.tag] at hm;exact hm))).trans h.row,(hs.tag g hg).trans h.tag,h.log.step hs h0 ht,k1,k2,h.sumE,h.head,h.hok.step hs h0,h.fork.step hs h0⟩
theorem LineAt.step {w w':World} {G G':Nat→Nat} {T:Nat→Prop} {t g:Nat} {l:Lin} (h:LineAt w G t g l) (hs:Step G G' T w w') (h0: ¬T 0) (ht: ¬T t):LineAt w' G' t g l:=by
 obtain ⟨vl,vs,ss,x,f0,f1,f2,f3,f4,f5,f6,f7,f8,f9,f10,f11,f12,f13,f14,h⟩:=h
 exact ⟨vl,vs,ss,x,f0,f1,f2,f3,f4,f5,f6,f7,f8,f9,f10,f11,f12,f13,f14,h.step hs h0 ht⟩
theorem LineR.later {w w':World} {G:Nat→Nat} {t g:Nat} {l:Lin} {vl vs:Value} {ss:List ByteArray} {x:HV} {f0 f1 f2 f3 f4 f5 f6 f7 f8 f9 f10 f11 f12 f13 f14:Value} (h:LineR w G t g l vl vs ss x f0 f1 f2 f3 f4 f5 f6 f7 f8 f9 f10 f11 f12 f13 f14) (hb:Below w.heap.size w w'):LineR w' G t g l vl vs ss x f0 f1 f2 f3 f4 f5 f6 f7 f8 f9 f10 f11 f12 f13 f14:=
 h.step (Step.of_below hb G (fun _=>False)) (fun h=>h) (fun h=>h)
theorem LineAt.later {w w':World} {G:Nat→Nat} {t g:Nat} {l:Lin} (h:LineAt w G t g l) (hb:Below w.heap.size w w'):LineAt w' G t g l:=h.step (Step.of_below hb G (fun _=>False)) (fun h=>h) (fun h=>h)
structure StoreR (w:World) (G:Nat→Nat) (s p:Nat) (B H:Int) (ls:List Lin) (vr:Value) (gs:List Nat):Prop where
 row:w.heap[p]? =some (.cells #[.int .i64 B,.int .i64 H,vr] 217 (0,0))
 tag:G p=s
 lines:w.ownsRow 0 220 1 vr gs.length (gs.map fun g=>Value.pointer (some ⟨g,0,none⟩))
 ltag: ∀b,vr.ownBlock=some b→G b=s
 len:gs.length=ls.length
 line: ∀(i:Nat) (h:i<ls.length),LineAt w G (s+1+i) (gs.getD i 0) ls[i]
def StoreAt (w:World) (G:Nat→Nat) (s p:Nat) (B H:Int) (ls:List Lin):Prop:= ∃vr gs,StoreR w G s p B H ls vr gs
theorem StoreR.step {w w':World} {G G':Nat→Nat} {T:Nat→Prop} {s p:Nat} {B H:Int} {ls:List Lin} {vr:Value} {gs:List Nat} (h:StoreR w G s p B H ls vr gs) (hs:Step G G' T w w') (h0: ¬T 0) (ht: ∀i,i≤ls.length→ ¬T (s+i)):StoreR w' G' s p B H ls vr gs:=by
 have hp:p<w.heap.size:=(gS h.row).1
 have hts: ¬T s:=ht 0 (Nat.zero_le _)
 obtain ⟨k1,k2⟩:=own_step h.lines h.ltag hs hts
 exact ⟨(hs.chg.other p hp (fun i hm=>hts (by rw [h.tag] at hm;exact hm))).trans h.row,(hs.tag p hp).trans h.tag,k1,k2,h.len,fun i hi=>(h.line i hi).step hs h0 (by rw [Nat.add_assoc,Nat.add_comm 1 i];exact ht (i+1) hi)⟩
theorem StoreAt.step {w w':World} {G G':Nat→Nat} {T:Nat→Prop} {s p:Nat} {B H:Int} {ls:List Lin} (h:StoreAt w G s p B H ls) (hs:Step G G' T w w') (h0: ¬T 0) (ht: ∀i,i≤ls.length→ ¬T (s+i)):StoreAt w' G' s p B H ls:=by
 obtain ⟨vr,gs,h⟩:=h
 exact ⟨vr,gs,h.step hs h0 ht⟩
theorem StoreR.later {w w':World} {G:Nat→Nat} {s p:Nat} {B H:Int} {ls:List Lin} {vr:Value} {gs:List Nat} (h:StoreR w G s p B H ls vr gs) (hb:Below w.heap.size w w'):StoreR w' G s p B H ls vr gs:=h.step (Step.of_below hb G (fun _=>False)) (fun h=>h) (fun _ _ h=>h)
theorem StoreAt.later {w w':World} {G:Nat→Nat} {s p:Nat} {B H:Int} {ls:List Lin} (h:StoreAt w G s p B H ls) (hb:Below w.heap.size w w'):StoreAt w' G s p B H ls:=h.step (Step.of_below hb G (fun _=>False)) (fun h=>h) (fun _ _ h=>h)
theorem StoreR.put {w w':World} {G G':Nat→Nat} {s p:Nat} {B H:Int} {ls:List Lin} {vr:Value} {gs:List Nat} (h:StoreR w G s p B H ls vr gs) (d:Nat) (hd:d<ls.length) (l:Lin) (hs:Step G G' (fun t=>t=s+1+d) w w') (h0:0<s) (hl:LineAt w' G' (s+1+d) (gs.getD d 0) l):StoreR w' G' s p B H (ls.set d l) vr gs:=by
 have hp:p<w.heap.size:=(gS h.row).1
 have hts: ¬s=s+1+d:=by omega
 obtain ⟨k1,k2⟩:=own_step h.lines h.ltag hs hts
 refine ⟨(hs.chg.other p hp (fun i hm=>hts (by rw [h.tag] at hm;exact hm))).trans h.row,(hs.tag p hp).trans h.tag,k1,k2,by rw [List.length_set];exact h.len,fun i hi=> ?_⟩
 have hi':i<ls.length:=by simpa using hi
 by_cases e:i=d
 ·subst e
  rw [List.getElem_set_self]
  exact hl
 ·rw [List.getElem_set_ne (fun h=>e h.symm)]
  exact (h.line i hi').step hs (by omega) (by omega)
end Go.Proofs.YtndlihclgdkpaaaGreatDoor
namespace Go.Proofs.YtndlihclgdkpaaaGreatDoor
namespace Kit
section
variable {P:Program} {md:Region.Mode} {Q:Exit→Act→World→Prop} {S:World→Prop}
def hplan (P:Program) (Q:Exit→Act→World→Prop) (S:World→Prop) (l:List Oper):List (Bool × Nat)→Act→World→Prop
 | [],a,w=>Q .normal a w
 | (true,i)::rest,a,w=> ∃o,l[i]? =some o∧ ∃v,YieldsIf P l.toArray S o v a∧hplan P Q S l rest (a.put o.dst v) w
 | (false,i)::rest,a,w=> ∃o,l[i]? =some o∧((Region.wanted o (yielded l.toArray a.tmps)=true∧ ∀K:Act→World→Prop,(∀a w,S w→hplan P Q S l rest a w→K a w)→o.wp P a w K Q)∨(Region.wanted o (yielded l.toArray a.tmps)=false∧hplan P Q S l rest (a.put o.dst undef) w))
def hplanOk (md:Region.Mode) (ops:Array Oper):List (Bool × Nat)→Array Bool→Bool
 | [],listed=>(Region.ready md ops listed).isEmpty
 | (true,i)::rest,listed=>Region.free md ops listed i && (Region.ready md ops listed).contains i && hplanOk md ops rest (listed.setIfInBounds i true)
 | (false,i)::rest,listed=>decide (Region.ready md ops listed=[i]) && hplanOk md ops rest (listed.setIfInBounds i true)
theorem any_of_hplan {l:List Oper} (hsel:Region.noSelect l.toArray=true) (hQ: ∀c a d v w,Q (.panic c) (a.put d v) w→Q (.panic c) a w):
    ∀(ps:List (Bool × Nat)) (listed:Array Bool) (a:Act) (w:World),S w→hplanOk md l.toArray ps listed=true→hplan P Q S l ps a w→wpAnyH P md l.toArray Q S ps.length listed a w
 | [],listed,a,w,_,hB,h=>by
   simp only [hplanOk,List.isEmpty_iff] at hB
   exact wpAnyH_done hB h 0
 | (true,i)::rest,listed,a,w,hS,hB,h=>by
   simp only [hplanOk,Bool.and_eq_true] at hB
   obtain ⟨o,ho,v,hy,hr⟩:=h
   exact wpAnyH_take (by simpa using ho) hsel hB.1.1 hB.1.2 (fun c a w=>hQ c a _ v w) hy hS (any_of_hplan hsel hQ rest _ _ _ hS hB.2 hr)
 | (false,i)::rest,listed,a,w,hS,hB,h=>by
   simp only [hplanOk,Bool.and_eq_true,decide_eq_true_eq] at hB
   obtain ⟨o,ho,hgw⟩:=h
   refine wpAnyH_all hB.1 (by simp) ?_
   intro j hj
   have hji:j=i:=by simpa using hj
   subst hji
   have ho':l.toArray[j]? =some o:=by simpa using ho
   unfold wpOp
   rw [ho']
   show if Region.wanted o (yielded l.toArray a.tmps)=true then _ else _
   rcases hgw with ⟨hg,hw⟩ | ⟨hg,hw⟩
   ·rw [if_pos hg]
    exact .inl (hw _ fun a w hS hc=>⟨hS,any_of_hplan hsel hQ rest _ a w hS hB.2 hc⟩)
   ·rw [if_neg (by rw [hg];decide)]
    exact ⟨hS,any_of_hplan hsel hQ rest _ _ _ hS hB.2 hw⟩
theorem wp_region_hplan {id:Nat} {a:Act} {w:World} {l:List Oper} (S:World→Prop) (ps:List (Bool × Nat)) (hm:P.follows .mixedOrders=true) (hsel:Region.noSelect l.toArray=true) (hn:l.length=ps.length)
    (hB:hplanOk .any l.toArray ps (Array.replicate l.length false)=true) (hS:S w.drew)
    (h:hplan P (NoPanic Q) S l ps a w.drew):(Code.region id l.toArray true).wp P Q a w:=by
 refine wp_region_noPanic (wp_region_held (S:=S) hm ?_)
 have H:=any_of_hplan hsel (fun _ _ _ _ _ h=>h) ps _ _ _ hS hB h
 rw [← hn] at H
 have e:l.toArray.size=l.length:=List.size_toArray
 rw [e]
 exact H
theorem hplan_done {l:List Oper} {a:Act} {w:World} (h:Q .normal a w):hplan P (NoPanic Q) S l [] a w:=h
theorem hplan_head {l:List Oper} {a:Act} {w:World} {i:Nat} {rest:List (Bool × Nat)} {o:Oper} {v:Value} (ho:l[i]? =some o) (hy:YieldsIf P l.toArray S o v a) (h:hplan P Q S l rest (a.put o.dst v) w):hplan P Q S l ((true,i)::rest) a w:=⟨o,ho,v,hy,h⟩
theorem hhd {l:List Oper} {a a':Act} {w:World} {i:Nat} {rest:List (Bool × Nat)} {o:Oper} {v:Value} (ho:l[i]? =some o:=by rfl) (hy:YieldsIf P l.toArray S o v a:=by first | exact .inr ⟨by rfl,rfl⟩ | exact .inl ⟨by rfl,fun w' hS=>by (dsimp only at hS);go_simp;(try with_reducible rfl)⟩) (ha:a.put o.dst v=a':=by (try simp only [Act.put,List.setIfInBounds_toArray,List.set_cons_zero,List.set_cons_succ]);rfl) (h:hplan P Q S l rest a' w):hplan P Q S l ((true,i)::rest) a w:=by subst ha;exact hplan_head ho hy h
theorem hplan_op {l:List Oper} {a:Act} {w:World} {i:Nat} {rest:List (Bool × Nat)} {o:Oper} (ho:l[i]? =some o) (hg:Region.wanted o (yielded l.toArray a.tmps)=true) (h: ∀K:Act→World→Prop,(∀a w,S w→hplan P Q S l rest a w→K a w)→o.wp P a w K Q):hplan P Q S l ((false,i)::rest) a w:=⟨o,ho,.inl ⟨hg,h⟩⟩
theorem hplan_skip {l:List Oper} {a:Act} {w:World} {i:Nat} {rest:List (Bool × Nat)} {o:Oper} (ho:l[i]? =some o) (hg:Region.wanted o (yielded l.toArray a.tmps)=false) (h:hplan P Q S l rest (a.put o.dst undef) w):hplan P Q S l ((false,i)::rest) a w:=⟨o,ho,.inr ⟨hg,h⟩⟩
theorem hdn {l:List Oper} {a a':Act} {w:World} (ha:a=a':=by (try simp only [Act.put,List.setIfInBounds_toArray,List.set_cons_zero,List.set_cons_succ]);rfl) (h:Q .normal a' w):hplan P (NoPanic Q) S l [] a w:=by subst ha;exact hplan_done h
theorem hsk {l:List Oper} {a a':Act} {w:World} {i:Nat} {rest:List (Bool × Nat)} {o:Oper} (ho:l[i]? =some o:=by rfl) (hg:Region.wanted o (yielded l.toArray a.tmps)=false:=by rfl) (ha:a.put o.dst undef=a':=by (try simp only [Act.put,List.setIfInBounds_toArray,List.set_cons_zero,List.set_cons_succ]);rfl) (h:hplan P Q S l rest a' w):hplan P Q S l ((false,i)::rest) a w:=by subst ha;exact hplan_skip ho hg h
end
end Kit
namespace Kit
section
variable {P:Program} {md:Region.Mode} {Q:Exit→Act→World→Prop} {S:World→Prop} {L:Nat}
def lplan (P:Program) (Q:Exit→Act→World→Prop) (S:World→Prop) (L:Nat) (l:List Oper):List (Bool × Nat)→Act→World→Prop
 | [],a,w=>Q .normal a w
 | (true,i)::rest,a,w=> ∃o,l[i]? =some o∧ ∃v,YieldsIf P l.toArray S o v a∧lplan P Q S L l rest (a.put o.dst v) w
 | (false,i)::rest,a,w=> ∃o,l[i]? =some o∧((Region.wanted o (yielded l.toArray a.tmps)=true∧ ∀K:Act→World→Prop,(∀a w,(i≠L→S w)→lplan P Q S L l rest a w→K a w)→o.wp P a w K Q)∨(Region.wanted o (yielded l.toArray a.tmps)=false∧lplan P Q S L l rest (a.put o.dst undef) w))
def lplanOk (md:Region.Mode) (ops:Array Oper) (L:Nat):List (Bool × Nat)→Array Bool→Bool
 | [],listed=>(Region.ready md ops listed).isEmpty
 | (true,i)::rest,listed=>Region.free md ops listed i && (Region.ready md ops listed).contains i && Region.waitsFor md ops L i && decide (i≠L) && lplanOk md ops L rest (listed.setIfInBounds i true)
 | (false,i)::rest,listed=>decide (Region.ready md ops listed=[i]) && (decide (i≠L) || rest.isEmpty) && lplanOk md ops L rest (listed.setIfInBounds i true)
theorem anyS_of_lplan {l:List Oper} (hsel:Region.noSelect l.toArray=true) (hQ: ∀c a d v w,Q (.panic c) (a.put d v) w→Q (.panic c) a w):
    ∀(ps:List (Bool × Nat)) (listed:Array Bool) (a:Act) (w:World),(ps≠[]→S w)→lplanOk md l.toArray L ps listed=true→lplan P Q S L l ps a w→anyS P md l.toArray Q S L ps.length listed a w
 | [],listed,a,w,_,hB,h=>by
   simp only [lplanOk,List.isEmpty_iff] at hB
   exact ⟨hB,h⟩
 | (true,i)::rest,listed,a,w,hS,hB,h=>by
   simp only [lplanOk,Bool.and_eq_true,decide_eq_true_eq] at hB
   obtain ⟨o,ho,v,hy,hr⟩:=h
   have hS':=hS (by simp)
   have ho':l.toArray[i]? =some o:=by simpa using ho
   exact anyS_first ho' (Region.noSelect_spec hsel) (fun c a w=>hQ c a _ v w) hB.1.1.2 hB.1.2 _ _ _ _ (Region.free_spec ho' hB.1.1.1.1) (by simpa using hB.1.1.1.2) hy hS' (anyS_of_lplan hsel hQ rest _ _ _ (fun _=>hS') hB.2 hr)
 | (false,i)::rest,listed,a,w,hS,hB,h=>by
   simp only [lplanOk,Bool.and_eq_true,Bool.or_eq_true,decide_eq_true_eq,List.isEmpty_iff] at hB
   obtain ⟨o,ho,hgw⟩:=h
   refine ⟨fun h0=>(by rw [hB.1.1] at h0;cases h0),fun j hj=> ?_⟩
   rw [hB.1.1] at hj
   have hji:j=i:=by simpa using hj
   subst hji
   have ho':l.toArray[j]? =some o:=by simpa using ho
   unfold wpOp
   rw [ho']
   show if Region.wanted o (yielded l.toArray a.tmps)=true then _ else _
   rcases hgw with ⟨hg,hw⟩ | ⟨hg,hw⟩
   ·rw [if_pos hg]
    exact .inl (hw _ fun a w hS2 hc=>⟨hS2,anyS_of_lplan hsel hQ rest _ a w (fun hne=>hS2 (hB.1.2.resolve_right hne)) hB.2 hc⟩)
   ·rw [if_neg (by rw [hg];decide)]
    exact ⟨fun _=>hS (by simp),anyS_of_lplan hsel hQ rest _ _ _ (fun _=>hS (by simp)) hB.2 hw⟩
theorem wp_region_lplan {id:Nat} {a:Act} {w:World} {l:List Oper} (S:World→Prop) (L:Nat) (ps:List (Bool × Nat)) (hm:P.follows .mixedOrders=true) (hsel:Region.noSelect l.toArray=true) (hn:l.length=ps.length)
    (hB:lplanOk .any l.toArray L ps (Array.replicate l.length false)=true) (hS:S w.drew)
    (h:lplan P (NoPanic Q) S L l ps a w.drew):(Code.region id l.toArray true).wp P Q a w:=by
 refine wp_region_noPanic (wp_region_any hm (any_of_anyS _ _ _ _ (S:=S) (L:=L) ?_))
 have H:=anyS_of_lplan (md:= .any) (L:=L) hsel (fun _ _ _ _ _ h=>h) ps _ _ _ (fun _=>hS) hB h
 rw [← hn] at H
 have e:l.toArray.size=l.length:=List.size_toArray
 rw [e]
 exact H
theorem lplan_done {l:List Oper} {a:Act} {w:World} (h:Q .normal a w):lplan P (NoPanic Q) S L l [] a w:=h
theorem lplan_head {l:List Oper} {a:Act} {w:World} {i:Nat} {rest:List (Bool × Nat)} {o:Oper} {v:Value} (ho:l[i]? =some o) (hy:YieldsIf P l.toArray S o v a) (h:lplan P Q S L l rest (a.put o.dst v) w):lplan P Q S L l ((true,i)::rest) a w:=⟨o,ho,v,hy,h⟩
theorem lplan_op {l:List Oper} {a:Act} {w:World} {i:Nat} {rest:List (Bool × Nat)} {o:Oper} (ho:l[i]? =some o) (hg:Region.wanted o (yielded l.toArray a.tmps)=true) (h: ∀K:Act→World→Prop,(∀a w,S w→lplan P Q S L l rest a w→K a w)→o.wp P a w K Q) (hi:i≠L):lplan P Q S L l ((false,i)::rest) a w:=⟨o,ho,.inl ⟨hg,fun K hK=>h K fun a w hS hl=>hK a w (fun _=>hS) hl⟩⟩
theorem lplan_last {l:List Oper} {a:Act} {w:World} {o:Oper} (ho:l[L]? =some o) (hg:Region.wanted o (yielded l.toArray a.tmps)=true) (h: ∀K:Act→World→Prop,(∀a w,lplan P Q S L l [] a w→K a w)→o.wp P a w K Q):lplan P Q S L l [(false,L)] a w:=⟨o,ho,.inl ⟨hg,fun K hK=>h K fun a w hl=>hK a w (fun hn=>absurd rfl hn) hl⟩⟩
theorem ldn {l:List Oper} {a a':Act} {w:World} (ha:a=a':=by (try simp only [Act.put,List.setIfInBounds_toArray,List.set_cons_zero,List.set_cons_succ]);rfl) (h:Q .normal a' w):lplan P (NoPanic Q) S L l [] a w:=by subst ha;exact lplan_done h
theorem lhd {l:List Oper} {a a':Act} {w:World} {i:Nat} {rest:List (Bool × Nat)} {o:Oper} {v:Value} (ho:l[i]? =some o:=by rfl) (hy:YieldsIf P l.toArray S o v a:=by first | exact .inr ⟨by rfl,rfl⟩ | exact .inl ⟨by rfl,fun w' hS=>by (dsimp only at hS);go_simp;(try with_reducible rfl)⟩) (ha:a.put o.dst v=a':=by (try simp only [Act.put,List.setIfInBounds_toArray,List.set_cons_zero,List.set_cons_succ]);rfl) (h:lplan P Q S L l rest a' w):lplan P Q S L l ((true,i)::rest) a w:=by subst ha;exact lplan_head ho hy h
end
end Kit
end Go.Proofs.YtndlihclgdkpaaaGreatDoor
namespace Go.Proofs.YtndlihclgdkpaaaGreatDoor
open Go.RowKit
open Kit (Chg)
open Sha (v)
open Go.Proofs.YtndlihclgdkpaaaGreatDoor.One

theorem bytes_none {w:World} {bs:List Nat} (h:BytesAt w none bs):bs=[]:=by
 rcases h.1 with e | ⟨b,o,e,_⟩
 ·exact e
 ·cases e
theorem strs_none {w:World} {ss:List ByteArray} (h:StrsAt w none ss):ss=[]:=by
 rcases h with e | ⟨b,o,e,_⟩
 ·exact e
 ·cases e
theorem cloneBytes_any (a:Option Addr) (n c:Nat) (bs:List Nat) (hn:bs.length=n) (hl:n≤1000000000) (w:World) (hB:BytesAt w a bs):Calls Tryz.prog 217 #[.slice a n c] w fun e w'=> ∃a' c',e= .returned (.slice a' n c')∧(a'=none→c'=0)∧BytesAt w' a' bs∧(∀ad,a'=some ad→w.heap.size≤ad.block)∧Below w.heap.size w w':=by
 have hq: ∀(w:World) (a:Option Addr) (n c n' c':Nat),(binOp .eql 52 (.slice a n c) (.slice none n' c')).run Tryz.prog w= .ok (.bool a.isNone) w:=fun w a n c n' c'=>Lib.run_eql_slice_nil w _ _ a n c n' c' Tryz.underlying52
 cases a with
 | none=>
   have hz:=bytes_none hB
   subst hz
   obtain rfl:n=0:=by simpa using hn.symm
   go_enter Tryz.func217,Tryz.ntmps217
   go_wp2
   go_ret
   exact ⟨none,0,rfl,fun _=>rfl,⟨.inl rfl,by simp,Nat.zero_le _⟩,by simp,Below.refl _ _⟩
 | some ad=>
   have HB:=hid hB
   have HNL:=hid hn
   have HBA:=hid (hB.later ((Below.refl w.heap.size w).alloc (Nat.le_refl _) (.cells #[] 5)))
   have HW1:Hid (w.heap.size≤(w.alloc (.cells #[] 5)).heap.size):=hid (by simp)
   have HE:=hid (own_empty_bytes w)
   have HBW:Hid (Below w.heap.size w (w.alloc (.cells #[] 5))):=hid ((Below.refl _ _).alloc (Nat.le_refl _) _)
   clear hB hn
   go_enter Tryz.func217,Tryz.ntmps217
   go_wp2_with (first
    | (at_builtin
       refine app_bytes rfl _ _ rfl w.heap.size _ 0 [] (by rfl) HE.o HW1.o (by decide) (some ad) n c bs HNL.o (by omega) (by rfl) HBA.o (fun e=>by cases e) ?_
       intro v3 w3 ho3 h3
       have HO3:=hid ho3
       have H3:=hid (HBW.o.trans h3)
       clear ho3 h3))
   have ho3:=HO3.o
   rw [List.nil_append,Nat.zero_add] at ho3
   obtain ⟨a3,cp3,rfl,hl3,hcp3,hB3,hnil3,hlt3⟩:=own_bytes ho3 HB.o.2.1 (by have:=HNL.o;unfold maxLen;omega)
   go_ret
   exact ⟨a3,cp3,rfl,hnil3,hB3,fun ad e=>(hlt3 ad e).1,H3.o⟩
section
variable {ops:Array Oper} {rest:List Oper} {o:Oper} {a:Act} {Q:Exit→Act→World→Prop}
theorem app_strs {w0:World} (hgd:o.guard=none) (s x:Operand) (ho:o.op= .call { callee:= .builtin .append,args:= #[s,x],argTypes:= #[43, 43] })
    (base:Nat) (v:Value) (L:Nat) (cur:List ByteArray) (hs:a.eval s=v) (hown:w0.ownsRow base 9 1 v L (strV cur)) (hb:base≤w0.heap.size) (hL:L≤1000000000)
    (ao:Option Addr) (m c:Nat) (xs:List ByteArray) (hm:xs.length=m) (hm2:m≤1000000000) (hx:a.eval x= .slice ao m c) (hB:StrsAt w0 ao xs) (hnil:ao=none→c=0)
    (h: ∀v' w',w'.ownsRow base 9 1 v' (L+m) (strV (cur++xs))→w0.grownBy w' v.ownBlock→wpList Tryz.prog ops Q rest (a.put o.dst v') w'):wpList Tryz.prog ops Q (o::rest) a w0:=by
 obtain ⟨i0,hi,hz0,hz1,hz2⟩:=info_parts Tryz.info9
 subst hm
 refine wpList_append_src hgd s x 43 ho base 9 i0 (.string ByteArray.empty) 1 16 Tryz.underlying43 hi hz0 hz1 hz2 rfl (by decide) v L (strV cur) hs hown ao xs.length c (strV xs) hx ?_ (strV_one _) (by unfold maxLen;omega) (by omega) hb ?_
 ·rcases hB with e | ⟨b,o',e,hcell⟩
  ·subst e
   cases ao with
   | none=>exact .inl ⟨rfl,rfl,hnil rfl,rfl⟩
   | some ad=>exact .inr ⟨rfl,ad,rfl,fun j u hu=>by simp [strV] at hu⟩
  ·subst e
   refine .inr ⟨by rw [strV_length,Nat.mul_one],_,rfl,fun j u hu=> ?_⟩
   have hj:j<xs.length:=by
    have:=(List.getElem?_eq_some_iff.1 hu).1
    rwa [strV_length] at this
   rw [add_none,hcell j hj,← hu,strV_get _ _ hj]
 intro v' w4 hown4 hgr4
 exact h v' w4 (by rw [show strV (cur++xs)=strV cur++strV xs by simp [strV]];exact hown4) hgr4
end
theorem own_none0 (w:World) (T:TypeId) (k:Nat):(w.alloc (.cells #[] T)).ownsRow w.heap.size T k (.slice (some ⟨w.heap.size,0,none⟩) 0 0) 0 []:=⟨by simp,.inr ⟨w.heap.size,0,#[],rfl,Nat.le_refl _,heap_alloc_new w _,Nat.le_refl _,by decide,by simp,by simp⟩⟩
theorem grown_below {w w':World} {base e size n:Nat} {v:Value} {xs:List Value} (hown:w.ownsRow base e size v n xs) (hb:base≤w.heap.size) (hg:w.grownBy w' v.ownBlock):Below base w w':=
 (Chg.of_grown hg (fun q _ e=>(hown.lt q e).1):Chg (fun q _=>base≤q) w w').below hb (fun q i hq h=>by omega)
theorem cloneStrs_any (a:Option Addr) (n c:Nat) (ss:List ByteArray) (hn:ss.length=n) (hl:n≤100000000) (w:World) (hB:StrsAt w a ss):Calls Tryz.prog 189 #[.slice a n c] w fun e w'=> ∃a' c',e= .returned (.slice a' n c')∧(a'=none→c'=0)∧StrsAt w' a' ss∧(∀ad,a'=some ad→w.heap.size≤ad.block)∧Below w.heap.size w w':=by
 have hq: ∀(w:World) (a:Option Addr) (n c n' c':Nat),(binOp .eql 43 (.slice a n c) (.slice none n' c')).run Tryz.prog w= .ok (.bool a.isNone) w:=fun w a n c n' c'=>Lib.run_eql_slice_nil w _ _ a n c n' c' Tryz.underlying43
 cases a with
 | none=>
   have hz:=strs_none hB
   subst hz
   obtain rfl:n=0:=by simpa using hn.symm
   go_enter Tryz.func189,Tryz.ntmps189
   go_wp2
   go_ret
   exact ⟨none,0,rfl,fun _=>rfl,.inl rfl,by simp,Below.refl _ _⟩
 | some ad=>
   have HNL:=hid hn
   have HBA:=hid (hB.later ((Below.refl w.heap.size w).alloc (Nat.le_refl _) (.cells #[] 9)))
   have HW1:Hid (w.heap.size≤(w.alloc (.cells #[] 9)).heap.size):=hid (by simp)
   have HE:=hid (own_none0 w 9 1)
   have HBW:Hid (Below w.heap.size w (w.alloc (.cells #[] 9))):=hid ((Below.refl _ _).alloc (Nat.le_refl _) _)
   clear hB hn
   go_enter Tryz.func189,Tryz.ntmps189
   go_wp2_with (first
    | (at_builtin
       refine app_strs rfl _ _ rfl w.heap.size _ 0 [] (by rfl) HE.o HW1.o (by decide) (some ad) n c ss HNL.o (by omega) (by rfl) HBA.o (fun e=>by cases e) ?_
       intro v3 w3 ho3 h3
       have HO3:=hid ho3
       have H3:=hid (HBW.o.trans (grown_below HE.o HW1.o h3))
       clear ho3 h3))
   have ho3:=HO3.o
   rw [List.nil_append,Nat.zero_add] at ho3
   obtain ⟨a3,cp3,rfl,hl3,hcp3,hB3,hnil3,hlt3⟩:=strs_of_own ho3
   go_ret
   exact ⟨a3,cp3,rfl,hnil3,hB3,fun ad e=>(hlt3 ad e).1,H3.o⟩
theorem cells6 {w:World} {N:Nat} {x0 x1 x2 x3 x4 x5:Value} {T:TypeId} (hg:w.heap[N]? =some (.cells #[x0,x1,x2,x3,x4,x5] T (0,0))): ∀i,w.frozen? ⟨N,i,none⟩=false:=fun i=>frozen_of_row _ _ _ _ _ hg
theorem put6_row6 {w:World} {N:Nat} {a0 a1 a2 a3 a4 a5 x0 x1 x2 x3 x4 x5:Value} {T:TypeId} (hg:w.heap[N]? =some (.cells #[a0,a1,a2,a3,a4,a5] T (0,0))):((((((w.setCell ⟨N,0,none⟩ x0).setCell ⟨N,1,none⟩ x1).setCell ⟨N,2,none⟩ x2).setCell ⟨N,3,none⟩ x3).setCell ⟨N,4,none⟩ x4).setCell ⟨N,5,none⟩ x5).heap[N]? =some (.cells #[x0,x1,x2,x3,x4,x5] T (0,0)):=
 heap_setCell_same _ N 5 #[x0,x1,x2,x3,x4,a5] T x5 (heap_setCell_same _ N 4 #[x0,x1,x2,x3,a4,a5] T x4 (heap_setCell_same _ N 3 #[x0,x1,x2,a3,a4,a5] T x3 (heap_setCell_same _ N 2 #[x0,x1,a2,a3,a4,a5] T x2 (heap_setCell_same _ N 1 #[x0,a1,a2,a3,a4,a5] T x1 (heap_setCell_same w N 0 #[a0,a1,a2,a3,a4,a5] T x0 hg)))))
theorem below6 {w0 w:World} {B N:Nat} {x0 x1 x2 x3 x4 x5:Value} (h:Below B w0 w) (hN:B≤N):Below B w0 ((((((w.setCell ⟨N,0,none⟩ x0).setCell ⟨N,1,none⟩ x1).setCell ⟨N,2,none⟩ x2).setCell ⟨N,3,none⟩ x3).setCell ⟨N,4,none⟩ x4).setCell ⟨N,5,none⟩ x5):=
 (((((h.setCell (p:=⟨N,0,none⟩) hN _).setCell (p:=⟨N,1,none⟩) hN _).setCell (p:=⟨N,2,none⟩) hN _).setCell (p:=⟨N,3,none⟩) hN _).setCell (p:=⟨N,4,none⟩) hN _).setCell (p:=⟨N,5,none⟩) hN _
theorem chg6 {w0 w:World} {M:Nat→Nat→Prop} {N:Nat} {x0 x1 x2 x3 x4 x5:Value} (h:Chg M w0 w) (hN: ∀i,M N i):Chg M w0 ((((((w.setCell ⟨N,0,none⟩ x0).setCell ⟨N,1,none⟩ x1).setCell ⟨N,2,none⟩ x2).setCell ⟨N,3,none⟩ x3).setCell ⟨N,4,none⟩ x4).setCell ⟨N,5,none⟩ x5):=
 (((((h.setCell _ (hN 0)).setCell _ (hN 1)).setCell _ (hN 2)).setCell _ (hN 3)).setCell _ (hN 4)).setCell _ (hN 5)
theorem cloneEntry_any (dv sq kd dy:Int) (a:Option Addr) (n c:Nat) (p:ByteArray) (bs:List Nat) (hn:bs.length=n) (hl:n≤1000000000) (w:World) (hB:BytesAt w a bs):
    Calls Tryz.prog 218 #[.agg #[.int .i64 dv,.int .i64 sq,.int .i64 kd,.int .i64 dy,.slice a n c,.string p]] w fun e w'=> ∃a2 cp2,e= .returned (.agg #[.int .i64 dv,.int .i64 sq,.int .i64 kd,.int .i64 dy,.slice a2 n cp2,.string p])∧(a2=none→cp2=0)∧BytesAt w' a2 bs∧(∀ad,a2=some ad→w.heap.size≤ad.block)∧Below w.heap.size w w':=by
 have HBY:=hid hB
 have HNL:=hid hn
 clear hB hn
 go_enter Tryz.func218,Tryz.ntmps218
 go_upto_region 1 with fail
 refine wp_over (fun W=>Hid (W.heap[w.heap.size]? =some (.cells #[.int .i64 dv,.int .i64 sq,.int .i64 kd,.int .i64 dy,.slice a n c,.string p] 92 (0,0)))∧Hid (W.heap[w.heap.size+1]? =some (.cells #[.int .i64 0,.int .i64 0,.int .i64 0,.int .i64 0,.slice none 0 0,.string ByteArray.empty] 92 (0,0)))∧Hid (Below w.heap.size w W)∧Hid (W.heap.size=w.heap.size+2)) ⟨?_,?_,?_,?_⟩ ?_
 ·exact (Below.heap_alloc _ _ _ (by simp)).trans (heap_alloc_new w _)
 ·have h:=heap_alloc_new (w.alloc (.cells #[.int .i64 dv,.int .i64 sq,.int .i64 kd,.int .i64 dy,.slice a n c,.string p] 92)) (.cells #[.int .i64 0,.int .i64 0,.int .i64 0,.int .i64 0,.slice none 0 0,.string ByteArray.empty] 92)
  rwa [World.size_alloc] at h
 ·exact ((Below.refl _ _).alloc (Nat.le_refl _) _).alloc (by simp) _
 ·show _=_
  simp
 rintro W ⟨HG,HZ,HB,HW⟩
 obtain ⟨N,hN⟩:=ex_eq w.heap.size
 rw [hN] at HG HZ HB HW ⊢
 have HN:=hid hN
 clear hN
 obtain ⟨c0,c1,c2,c3,c4,c5⟩:=row6 HG.o
 have HB2:=hid (HBY.o.later (by rw [HN.o];exact HB.o))
 go_upto_region 2 with (first
  | (go_at_call 217
     (refine (cloneBytes_any a n c bs HNL.o hl _ HB2.o).mono ?_)
     rintro e w2 ⟨a2,cp2,rfl,hn2,hb2,hg2,h2⟩
     have HN2:=hid hn2
     have HBB:=hid hb2
     have HG2:=hid hg2
     have H2:=hid h2
     have HR1:=hid ((h2.block N (by have:=HW.o;omega)).trans HG.o)
     have HR2:=hid ((h2.block (N+1) (by have:=HW.o;omega)).trans HZ.o)
     have f4:=cells6 HR1.o 4
     clear hn2 hb2 hg2 h2 c0 c1 c2 c3 c4 c5
     obtain ⟨c0,c1,c2,c3,c4,c5⟩:=row6 HR1.o))
 refine wp_over (fun V=>Hid (V.heap[N]? =some (.cells #[.int .i64 dv,.int .i64 sq,.int .i64 kd,.int .i64 dy,.slice a2 n cp2,.string p] 92 (0,0)))∧Hid (V.heap[N+1]? =some (.cells #[.int .i64 0,.int .i64 0,.int .i64 0,.int .i64 0,.slice none 0 0,.string ByteArray.empty] 92 (0,0)))∧Hid (BytesAt V a2 bs)∧Hid (Below N w V)) ⟨heap_setCell_same _ N 4 _ _ _ HR1.o,(Below.heap_setCell _ _ _ _ (by simp)).trans HR2.o,bytesAt_chg HBB.o (Chg.setCell1 (M:=fun k _=>k=N) _ _ _ _ rfl) (fun ad e i h=>by have:=HG2.o ad e;have:=HW.o;omega),(HB.o.trans (H2.o.mono (by have:=HW.o;omega))).setCell (Nat.le_refl _) _⟩ ?_
 clear f4 c0 c1 c2 c3 c4 c5
 rintro V ⟨HR3,HZ3,HB3,HV⟩
 obtain ⟨c0,c1,c2,c3,c4,c5⟩:=row6 HR3.o
 obtain ⟨d0,d1,d2,d3,d4,d5⟩:=row6 HZ3.o
 have f5:=cells6 HZ3.o
 go_wp2_with fail
 refine bodyPost_ret (results_cell_row (p:=2) rfl _ _ (N+1) 92 #[.int .i64 dv,.int .i64 sq,.int .i64 kd,.int .i64 dy,.slice a2 n cp2,.string p] (0,0) _ (by rfl) (put6_row6 HZ3.o) Tryz.underlying92 rfl (by kernel_rfl)) rfl ?_
 exact ⟨a2,cp2,rfl,HN2.o,bytesAt_chg HB3.o (chg6 (M:=fun k _=>k=N+1) (Chg.refl _ _) (fun _=>rfl)) (fun ad e i h=>by have:=HG2.o ad e;have:=HW.o;omega),fun ad e=>by have:=HG2.o ad e;have:=HW.o;have:=HN.o;omega,by rw [HN.o];exact below6 HV.o (Nat.le_succ N)⟩
theorem cloneHead_any (dv sq:Int) (sm:ByteArray) (ix:Int) (a1:Option Addr) (n1 c1:Nat) (a2:Option Addr) (n2 c2:Nat) (ps qs:List ByteArray) (hn1:ps.length=n1) (hn2:qs.length=n2) (hl1:n1≤100000000) (hl2:n2≤100000000) (w:World) (hP:StrsAt w a1 ps) (hQ:StrsAt w a2 qs):
    Calls Tryz.prog 147 #[.agg #[.int .i64 dv,.int .i64 sq,.string sm,.int .i64 ix,.slice a1 n1 c1,.slice a2 n2 c2]] w fun e w'=> ∃a7 cp7 a8 cp8,e= .returned (.agg #[.int .i64 dv,.int .i64 sq,.string sm,.int .i64 ix,.slice a7 n1 cp7,.slice a8 n2 cp8])∧(a7=none→cp7=0)∧(a8=none→cp8=0)∧StrsAt w' a7 ps∧StrsAt w' a8 qs∧(∀ad,a7=some ad→w.heap.size≤ad.block)∧(∀ad,a8=some ad→w.heap.size≤ad.block)∧Below w.heap.size w w':=by
 have HPS:=hid hP
 have HQS:=hid hQ
 have HN1:=hid hn1
 have HN2:=hid hn2
 clear hP hQ hn1 hn2
 go_enter Tryz.func147,Tryz.ntmps147
 go_upto_region 1 with fail
 refine wp_over (fun W=>Hid (W.heap[w.heap.size]? =some (.cells #[.int .i64 dv,.int .i64 sq,.string sm,.int .i64 ix,.slice a1 n1 c1,.slice a2 n2 c2] 94 (0,0)))∧Hid (W.heap[w.heap.size+1]? =some (.cells #[.int .i64 0,.int .i64 0,.string ByteArray.empty,.int .i64 0,.slice none 0 0,.slice none 0 0] 94 (0,0)))∧Hid (Below w.heap.size w W)∧Hid (W.heap.size=w.heap.size+2)) ⟨?_,?_,?_,?_⟩ ?_
 ·exact (Below.heap_alloc _ _ _ (by simp)).trans (heap_alloc_new w _)
 ·have h:=heap_alloc_new (w.alloc (.cells #[.int .i64 dv,.int .i64 sq,.string sm,.int .i64 ix,.slice a1 n1 c1,.slice a2 n2 c2] 94)) (.cells #[.int .i64 0,.int .i64 0,.string ByteArray.empty,.int .i64 0,.slice none 0 0,.slice none 0 0] 94)
  rwa [World.size_alloc] at h
 ·exact ((Below.refl _ _).alloc (Nat.le_refl _) _).alloc (by simp) _
 ·show _=_
  simp
 rintro W ⟨HG,HZ,HB,HW⟩
 obtain ⟨N,hN⟩:=ex_eq w.heap.size
 rw [hN] at HG HZ HB HW ⊢
 have HN:=hid hN
 clear hN
 have HP2:=hid (HPS.o.later (by rw [HN.o];exact HB.o))
 have HQ2:=hid (HQS.o.later (by rw [HN.o];exact HB.o))
 have HSF:Hid (∀V,Below (N+2) W V→(V.cell? ⟨N,3,none⟩=some (.int .i64 ix)∧V.cell? ⟨N,4,none⟩=some (.slice a1 n1 c1)∧V.cell? ⟨N,5,none⟩=some (.slice a2 n2 c2)∧ ∀i,V.frozen? ⟨N,i,none⟩=false)):=hid (fun V h=>by
  have hg:=(h.block N (by omega)).trans HG.o
  obtain ⟨c0,c1,c2,c3,c4,c5⟩:=row6 hg
  exact ⟨c3,c4,c5,cells6 hg⟩)
 have HST:Hid (∀V V',Below (N+2) W V→Below V.heap.size V V'→Below (N+2) W V'):=hid (fun V V' h h'=>h.trans (h'.mono (by have:=h.size;have:=HW.o;omega)))
 obtain ⟨c3,c4,c5,hfr⟩:=HSF.o W (Below.refl _ _)
 refine Kit.wp_region_lplan (fun V=>V.cell? ⟨N,3,none⟩=some (.int .i64 ix)∧V.cell? ⟨N,4,none⟩=some (.slice a1 n1 c1)∧V.cell? ⟨N,5,none⟩=some (.slice a2 n2 c2)∧ ∀i,V.frozen? ⟨N,i,none⟩=false) 13 [(true,0),(true,1),(true,2),(true,3),(true,4),(true,5),(true,7),(true,8),(true,9),(false,6),(false,10),(true,11),(true,12),(false,13)] (by kernel_rfl) (by kernel_rfl) (by kernel_rfl) (by kernel_rfl) ⟨c3,c4,c5,hfr⟩ ?_
 iterate 9 (refine Kit.lhd (h:=?_))
 clear c3 c4 c5 hfr
 refine Kit.lplan_op (by rfl) (by rfl) (fun K hK=> ?_) (by decide)
 go_simp
 go_at_call 189
 refine (cloneStrs_any a1 n1 c1 ps HN1.o hl1 _ (HP2.o.later (Below.refl _ _).drew)).mono ?_
 rintro e w7 ⟨a7,cp7,rfl,hn7,hb7,hg7,h7⟩
 have HN7:=hid hn7
 have HBB7:=hid hb7
 have HG7:=hid hg7
 have H7:=hid (HST.o _ _ (Below.refl _ _) ((Below.refl _ W).drew.trans h7))
 clear hn7 hb7 hg7 h7
 refine hK _ _ (HSF.o _ H7.o) ?_
 clear hK K
 refine Kit.lplan_op (by rfl) (by rfl) (fun K hK=> ?_) (by decide)
 go_simp
 go_at_call 189
 refine (cloneStrs_any a2 n2 c2 qs HN2.o hl2 _ (HQ2.o.later (H7.o.mono (by have:=HW.o;omega)))).mono ?_
 rintro e w8 ⟨a8,cp8,rfl,hn8,hb8,hg8,h8⟩
 have HN8:=hid hn8
 have HBB8:=hid hb8
 have HG8:=hid hg8
 have H8:=hid (h8)
 clear hn8 hb8 hg8 h8
 have H9:=hid (HST.o _ _ H7.o H8.o)
 have HP9:=hid (HBB7.o.later H8.o)
 refine hK _ _ (HSF.o _ H9.o) ?_
 clear hK K
 iterate 2 (refine Kit.lhd (h:=?_))
 obtain ⟨c3,c4,c5,hfr⟩:=HSF.o _ H9.o
 refine Kit.lplan_last (by rfl) (by rfl) fun K hK=> ?_
 go_simp
 refine hK _ _ ?_
 clear hK K
 refine Kit.ldn (h:=?_)
 have HG3:Hid ((((w8.setCell ⟨N,3,none⟩ (.int .i64 ix)).setCell ⟨N,4,none⟩ (.slice a7 n1 cp7)).setCell ⟨N,5,none⟩ (.slice a8 n2 cp8)).heap[N]? =some (.cells #[.int .i64 dv,.int .i64 sq,.string sm,.int .i64 ix,.slice a7 n1 cp7,.slice a8 n2 cp8] 94 (0,0))):=
  hid (heap_setCell_same _ N 5 #[.int .i64 dv,.int .i64 sq,.string sm,.int .i64 ix,.slice a7 n1 cp7,.slice a2 n2 c2] _ _ (heap_setCell_same _ N 4 #[.int .i64 dv,.int .i64 sq,.string sm,.int .i64 ix,.slice a1 n1 c1,.slice a2 n2 c2] _ _ (heap_setCell_same _ N 3 _ _ _ ((H9.o.block N (by omega)).trans HG.o))))
 have HZ3:Hid ((((w8.setCell ⟨N,3,none⟩ (.int .i64 ix)).setCell ⟨N,4,none⟩ (.slice a7 n1 cp7)).setCell ⟨N,5,none⟩ (.slice a8 n2 cp8)).heap[N+1]? =some (.cells #[.int .i64 0,.int .i64 0,.string ByteArray.empty,.int .i64 0,.slice none 0 0,.slice none 0 0] 94 (0,0))):=hid (by
  iterate 3 rw [Below.heap_setCell _ _ _ (N+1) (by simp)]
  exact (H9.o.block (N+1) (by omega)).trans HZ.o)
 have HCH:Hid (Chg (fun k _=>k=N) w8 (((w8.setCell ⟨N,3,none⟩ (.int .i64 ix)).setCell ⟨N,4,none⟩ (.slice a7 n1 cp7)).setCell ⟨N,5,none⟩ (.slice a8 n2 cp8))):=hid ((((Chg.refl (fun k _=>k=N) w8).setCell (b:=N) (o:=3) _ rfl).setCell (b:=N) (o:=4) _ rfl).setCell (b:=N) (o:=5) _ rfl)
 have HBL:Hid (Below N w (((w8.setCell ⟨N,3,none⟩ (.int .i64 ix)).setCell ⟨N,4,none⟩ (.slice a7 n1 cp7)).setCell ⟨N,5,none⟩ (.slice a8 n2 cp8))):=hid ((((HB.o.trans (H9.o.mono (by omega))).setCell (p:=⟨N,3,none⟩) (Nat.le_refl _) _).setCell (p:=⟨N,4,none⟩) (Nat.le_refl _) _).setCell (p:=⟨N,5,none⟩) (Nat.le_refl _) _)
 obtain ⟨V,hV⟩:=ex_eq (((w8.setCell ⟨N,3,none⟩ (.int .i64 ix)).setCell ⟨N,4,none⟩ (.slice a7 n1 cp7)).setCell ⟨N,5,none⟩ (.slice a8 n2 cp8))
 rw [hV] at HG3 HZ3 HCH HBL ⊢
 clear hV c3 c4 c5 hfr
 have HB7:Hid (∀ad,a7=some ad→w.heap.size≤ad.block∧ad.block≠N∧ad.block≠N+1):=hid (fun ad e=>by have h:=HG7.o ad e;have h2:W.drew.heap.size=W.heap.size:=rfl;have:=HW.o;have:=HN.o;omega)
 have HB8:Hid (∀ad,a8=some ad→w.heap.size≤ad.block∧ad.block≠N∧ad.block≠N+1):=hid (fun ad e=>by have h:=HG8.o ad e;have h2:=H7.o.size;have:=HW.o;have:=HN.o;omega)
 obtain ⟨c0,c1,c2,c3,c4,c5⟩:=row6 HG3.o
 obtain ⟨d0,d1,d2,d3,d4,d5⟩:=row6 HZ3.o
 have f5:=cells6 HZ3.o
 go_wp2_with fail
 refine bodyPost_ret (results_cell_row (p:=2) rfl _ _ (N+1) 94 #[.int .i64 dv,.int .i64 sq,.string sm,.int .i64 ix,.slice a7 n1 cp7,.slice a8 n2 cp8] (0,0) _ (by rfl) (put6_row6 HZ3.o) Tryz.underlying94 rfl (by kernel_rfl)) rfl ?_
 exact ⟨a7,cp7,a8,cp8,rfl,HN7.o,HN8.o,(HP9.o.keep HCH.o (fun ad e _ i h=>(HB7.o ad e).2.1 h)).keep (chg6 (M:=fun k _=>k=N+1) (Chg.refl _ _) (fun _=>rfl)) (fun ad e _ i h=>(HB7.o ad e).2.2 h),(HBB8.o.keep HCH.o (fun ad e _ i h=>(HB8.o ad e).2.1 h)).keep (chg6 (M:=fun k _=>k=N+1) (Chg.refl _ _) (fun _=>rfl)) (fun ad e _ i h=>(HB8.o ad e).2.2 h),fun ad e=>(HB7.o ad e).1,fun ad e=>(HB8.o ad e).1,by rw [HN.o];exact below6 HBL.o (Nat.le_succ N)⟩
theorem Tryz.infoEnt:(Tryz.prog.info? 92).map (fun i=>(i.zero,i.size,i.bytes))=some (some (.agg #[.int .i64 0,.int .i64 0,.int .i64 0,.int .i64 0,.slice none 0 0,.string ByteArray.empty]),6,72):=by kernel_rfl
def entC:Array Value:= #[.int .i64 0,.int .i64 0,.int .i64 0,.int .i64 0,.slice none 0 0,.string ByteArray.empty]
theorem make_ents (n:Nat) (hn:n≤1000000) (w:World):(Instr.makeSlice 111 (.int .i64 (n:Int)) (.int .i64 (n:Int))).run Tryz.prog w= .ok (.slice (some ⟨w.heap.size,0,none⟩) n n) (w.alloc (.cells (madeCells entC (n*6)) 92)):=by
 obtain ⟨i0,hi,hz0,hz1,hz2⟩:=info_parts Tryz.infoEnt
 have hr:=run_make (P:= Tryz.prog) w 111 92 i0 _ Tryz.underlying111 hi hz0 .i64 .i64 n n (by omega) (Int.le_refl _) (by rw [hz2];omega) (by omega)
 simp only [Int.toNat_natCast,hz1] at hr
 exact hr
def entZV:EV:=⟨⟨0,0,0,0,[],ByteArray.empty⟩,none,0⟩
theorem made_ents (n:Nat):(madeCells entC (n*6)).toList=evs (List.replicate n entZV):=by
 apply List.ext_getElem?
 intro i
 by_cases hi:i<n*6
 ·have h1:(madeCells entC (n*6)).toList[i]? =some (entC[i % 6]!):=by
     simp [madeCells,hi]
     rfl
  have h2:=sixes_get (f:=EV.cells) (fun _=>rfl) (List.replicate n entZV) (i/6) (by simp;omega) (i % 6) (Nat.mod_lt _ (by decide))
  rw [show i/6*6+i % 6=i by omega] at h2
  unfold evs
  rw [h1,h2,List.getElem_replicate]
  have hm:i % 6<6:=Nat.mod_lt _ (by decide)
  generalize i % 6=j at hm
  match j,hm with
  | 0,_=>rfl
  | 1,_=>rfl
  | 2,_=>rfl
  | 3,_=>rfl
  | 4,_=>rfl
  | 5,_=>rfl
 ·rw [List.getElem?_eq_none (by simp [size_madeCells];omega),List.getElem?_eq_none (by rw [evs_len,List.length_replicate];omega)]
def RowS {α:Type} (f:α→List Value) (T:TypeId) (w:World) (bl:Nat) (cap:Nat) (xs:List α):Prop:= ∃cur,w.heap[bl]? =some (.cells cur T (0,0))∧xs.length≤cap∧cap≤maxLen∧cur.size=cap*6∧cur.toList.take (xs.length*6)=sixes f xs
section
variable {α:Type} {f:α→List Value} {T:TypeId}
theorem RowS.own (hf: ∀x,(f x).length=6) {w:World} {B bl cap:Nat} {xs:List α} (h:RowS f T w bl cap xs) (hb:B≤bl):w.ownsRow B T 6 (.slice (some ⟨bl,0,none⟩) xs.length cap) xs.length (sixes f xs):=by
 obtain ⟨cur,h1,h2,h3,h4,h5⟩:=h
 exact ⟨sixes_len hf xs,.inr ⟨bl,cap,cur,rfl,hb,h1,h2,h3,h4,h5⟩⟩
theorem RowS.of {w:World} {B bl n cap:Nat} {xs:List α} (h:w.ownsRow B T 6 (.slice (some ⟨bl,0,none⟩) n cap) n (sixes f xs)) (hn:xs.length=n):RowS f T w bl cap xs∧B≤bl:=by
 subst hn
 rcases h.2 with ⟨h3,_⟩ | ⟨g,cap',cur,he,hb,hg,hc,hm,hs,ht⟩
 ·cases h3
 ·cases he
  exact ⟨⟨cur,hg,hc,hm,hs,ht⟩,hb⟩
theorem RowS.keep {w w':World} {bl cap:Nat} {xs:List α} (h:RowS f T w bl cap xs) (he:w'.heap[bl]? =w.heap[bl]?):RowS f T w' bl cap xs:=by
 obtain ⟨cur,h1,h2⟩:=h
 exact ⟨cur,he.trans h1,h2⟩
theorem RowS.lt {w:World} {bl cap:Nat} {xs:List α} (h:RowS f T w bl cap xs):bl<w.heap.size:=by
 obtain ⟨cur,h1,h2⟩:=h
 exact (gS h1).1
theorem RowS.later {w w':World} {bl cap:Nat} {xs:List α} (h:RowS f T w bl cap xs) (hb:Below w.heap.size w w'):RowS f T w' bl cap xs:=h.keep (hb.block bl h.lt)
theorem RowS.cells (hf: ∀x,(f x).length=6) {w:World} {bl cap:Nat} {xs:List α} (h:RowS f T w bl cap xs) (k:Nat) (hk:k<xs.length):(∀j,j<6→w.cell? ⟨bl,k*6+j,none⟩=(f xs[k])[j]?)∧ ∀i,w.frozen? ⟨bl,i,none⟩=false:=by
 obtain ⟨cur,h1,h2,h3,h4,h5⟩:=h
 refine ⟨fun j hj=> ?_,fun i=>frozen_of_row _ _ _ _ _ h1⟩
 rw [cell_of_row _ _ _ _ _ _ h1,← sixes_get hf xs k hk j hj,← h5,List.getElem?_take_of_lt (by omega)]
 simp
theorem sixes_set (hf: ∀x,(f x).length=6): ∀(xs:List α) (k:Nat) (y:α) (x0 x1 x2 x3 x4 x5:Value),k<xs.length→f y=[x0,x1,x2,x3,x4,x5]→
    ((((((sixes f xs).set (k*6) x0).set (k*6+1) x1).set (k*6+2) x2).set (k*6+3) x3).set (k*6+4) x4).set (k*6+5) x5=sixes f (xs.set k y)
 | [],k,y,_,_,_,_,_,_,hk,_=>by simp at hk
 | x::l,0,y,x0,x1,x2,x3,x4,x5,hk,hy=>by
   rw [List.set_cons_zero,sixes,sixes,hy]
   have h6:=hf x
   obtain ⟨a0,a1,a2,a3,a4,a5,e⟩: ∃a0 a1 a2 a3 a4 a5,f x=[a0,a1,a2,a3,a4,a5]:=by
    match hx:f x,h6 with
    | [a0,a1,a2,a3,a4,a5],_=>exact ⟨a0,a1,a2,a3,a4,a5,rfl⟩
   rw [e]
   rfl
 | x::l,k+1,y,x0,x1,x2,x3,x4,x5,hk,hy=>by
   have ih:=sixes_set hf l k y x0 x1 x2 x3 x4 x5 (by simpa using hk) hy
   rw [List.set_cons_succ,sixes,sixes,← ih]
   have h: ∀(l2:List Value) (j:Nat) (v:Value),(f x++l2).set ((k+1)*6+j) v=f x++l2.set (k*6+j) v:=fun l2 j v=>by
    rw [List.set_append_right _ _ (by rw [hf];omega),hf]
    congr 2
    omega
   have h0: ∀(l2:List Value) (v:Value),(f x++l2).set ((k+1)*6) v=f x++l2.set (k*6) v:=fun l2 v=>h l2 0 v
   rw [h0,h,h,h,h,h]
theorem RowS.put (hf: ∀x,(f x).length=6) {w:World} {bl cap:Nat} {xs:List α} (h:RowS f T w bl cap xs) (k:Nat) (hk:k<xs.length) (y:α) {x0 x1 x2 x3 x4 x5:Value} (hy:f y=[x0,x1,x2,x3,x4,x5]):RowS f T (put6 w bl (k*6) x0 x1 x2 x3 x4 x5) bl cap (xs.set k y):=by
 obtain ⟨cur,h1,h2,h3,h4,h5⟩:=h
 refine ⟨_,heap_setCell_same _ _ _ _ _ _ (heap_setCell_same _ _ _ _ _ _ (heap_setCell_same _ _ _ _ _ _ (heap_setCell_same _ _ _ _ _ _ (heap_setCell_same _ _ _ _ _ _ (heap_setCell_same w bl (k*6) cur T x0 h1))))),by rw [List.length_set];exact h2,h3,by simp only [Array.size_setIfInBounds];exact h4,?_⟩
 simp only [Array.toList_setIfInBounds,List.length_set]
 rw [← sixes_set hf xs k y x0 x1 x2 x3 x4 x5 hk hy,← h5]
 simp only [List.take_set]
end
section
variable {α:Type} {f:α→List Value} {T:TypeId}
theorem RowS.six (hf: ∀x,(f x).length=6) {w:World} {bl cap:Nat} {xs:List α} (h:RowS f T w bl cap xs) (k:Nat) (hk:k<xs.length): ∃x0 x1 x2 x3 x4 x5,f xs[k]=[x0,x1,x2,x3,x4,x5]∧w.cell? ⟨bl,k*6,none⟩=some x0∧w.cell? ⟨bl,k*6+1,none⟩=some x1∧w.cell? ⟨bl,k*6+2,none⟩=some x2∧w.cell? ⟨bl,k*6+3,none⟩=some x3∧w.cell? ⟨bl,k*6+4,none⟩=some x4∧w.cell? ⟨bl,k*6+5,none⟩=some x5∧ ∀i,w.frozen? ⟨bl,i,none⟩=false:=by
 obtain ⟨h1,h2⟩:=h.cells hf k hk
 have h6:=hf xs[k]
 match hx:f xs[k],h6 with
 | [a0,a1,a2,a3,a4,a5],_=>
   rw [hx] at h1
   exact ⟨a0,a1,a2,a3,a4,a5,rfl,h1 0 (by decide),h1 1 (by decide),h1 2 (by decide),h1 3 (by decide),h1 4 (by decide),h1 5 (by decide),h2⟩
end
theorem setNext {α:Type} (xs:List α) (L k:Nat) (x z:α) (hl:xs.length=k) (hk:k<L):(xs++List.replicate (L - k) z).set k x=(xs++[x])++List.replicate (L - (k+1)) z:=by
 subst hl
 rw [List.set_append_right _ _ (Nat.le_refl _),Nat.sub_self,show L - xs.length=(L - (xs.length+1))+1 by omega,List.replicate_succ,List.set_cons_zero,List.append_assoc]
 rfl
def NewE (w:World) (B:Nat) (x:EV):Prop:=(x.a=none→x.c=0)∧BytesAt w x.a x.e.body∧ ∀ad,x.a=some ad→B≤ad.block
theorem NewE.later {w w':World} {B:Nat} {x:EV} (h:NewE w B x) (hb:Below w.heap.size w w'):NewE w' B x:=⟨h.1,h.2.1.later hb,h.2.2⟩
theorem NewE.keepN {w w':World} {N:Nat} {x:EV} (h:NewE w (N+1) x) (hc:Chg (fun q _=>q=N) w w'):NewE w' (N+1) x:=⟨h.1,bytesAt_chg h.2.1 hc (fun ad e i hm=>by have:=h.2.2 ad e;omega),h.2.2⟩
theorem put6_chg (w:World) (N o:Nat) (x0 x1 x2 x3 x4 x5:Value):Chg (fun q _=>q=N) w ((((((w.setCell ⟨N,o,none⟩ x0).setCell ⟨N,o+1,none⟩ x1).setCell ⟨N,o+2,none⟩ x2).setCell ⟨N,o+3,none⟩ x3).setCell ⟨N,o+4,none⟩ x4).setCell ⟨N,o+5,none⟩ x5):=
 ((((((Chg.refl (fun q _=>q=N) w).setCell (b:=N) (o:=o) _ rfl).setCell (b:=N) (o:=o+1) _ rfl).setCell (b:=N) (o:=o+2) _ rfl).setCell (b:=N) (o:=o+3) _ rfl).setCell (b:=N) (o:=o+4) _ rfl).setCell (b:=N) (o:=o+5) _ rfl
theorem NewE.mono {w:World} {B B':Nat} {x:EV} (h:NewE w B x) (hb:B'≤B):NewE w B' x:=⟨h.1,h.2.1,fun ad e=>Nat.le_trans hb (h.2.2 ad e)⟩
theorem cloneLog_any (a:Option Addr) (c L:Nat) (es:List Ent) (hLe:es.length=L) (hL:L≤1000000) (hb: ∀e ∈ es,e.body.length≤1000000000) (w:World) (hE:EntsAt w a es):
    Calls Tryz.prog 146 #[.slice a L c] w fun e w'=> ∃(bl:Nat) (xs:List EV),e= .returned (.slice (some ⟨bl,0,none⟩) L L)∧xs.map EV.e=es∧RowS EV.cells 92 w' bl L xs∧w.heap.size≤bl∧(∀x ∈ xs,NewE w' (w.heap.size+1) x)∧Below w.heap.size w w':=by
 have HE:=hid hE
 have HLE:=hid hLe
 have HBD:=hid hb
 have hmk:=fun w=>make_ents L hL w
 clear hE hLe hb
 go_enter Tryz.func146,Tryz.ntmps146
 go_upto_region 2 with fail
 refine wp_over (fun W=>Hid (RowS EV.cells 92 W w.heap.size L (List.replicate L entZV))∧Hid (Below w.heap.size w W)∧Hid (W.heap.size=w.heap.size+1)) ⟨⟨_,heap_alloc_new _ _,by rw [List.length_replicate];exact Nat.le_refl _,by unfold maxLen;omega,by rw [size_madeCells],by rw [made_ents,List.take_of_length_le (by rw [evs_len];exact Nat.le_refl _)];rfl⟩,(Below.refl _ _).alloc (Nat.le_refl _) _,by show _=_;simp⟩ ?_
 clear hmk
 rintro W ⟨HR,HB,HW⟩
 obtain ⟨N,hN⟩:=ex_eq w.heap.size
 rw [hN] at HR HB HW ⊢
 have HN:=hid hN
 clear hN
 have HST:Hid (∀V V',Below N w V→Below V.heap.size V V'→Below N w V'):=hid (fun V V' h h'=>h.trans (h'.mono (by have:=h.size;have:=HN.o;omega)))
 go_upto_region 3 with fail
 go_loopw [11] (fun z wr=> ∃k:Nat,k≤L∧z= .int .i64 (k:Int)∧Hid (∃xs:List EV,xs.map EV.e=es.take k∧RowS EV.cells 92 wr N L (xs++List.replicate (L - k) entZV)∧ ∀x ∈ xs,NewE wr (N+1) x)∧Hid (Below N w wr)∧Hid (N+1≤wr.heap.size)) (fun z _=>L - (intOf z).toNat)
 case atStart=>exact ⟨0,by omega,rfl,⟨[],rfl,HR.o,by simp⟩,HB,hid (by have:=HW.o;omega)⟩
 case round=>
  obtain ⟨k,hk,rfl,HX,HRW,HSZ⟩:=hrel
  by_cases hlt:k<L
  ·have hki:(k:Int)<(L:Int):=by omega
   have HKL:Hid (k<es.length):=hid (by rw [HLE.o];exact hlt)
   obtain ⟨b0,o0,rfl,hes⟩: ∃b o,a=some ⟨b,o,none⟩∧ ∀i,(h:i<es.length)→EntAt wr b (o+i*6) es[i]:=by
    rcases HE.o.later (by rw [HN.o];exact HRW.o) with h | h
    ·have:=HLE.o;rw [h] at this;simp at this;omega
    ·exact h
   have hek:=hes k HKL.o
   obtain ⟨e,hee⟩: ∃e,e=es[k]'HKL.o:=⟨_,rfl⟩
   rw [← hee] at hek
   have HEE:Hid (∀h,es[k]'h=e):=hid (fun _=>hee.symm)
   have HBE:Hid (e.body.length≤1000000000):=hid (HBD.o e (by rw [hee];exact List.getElem_mem _))
   clear hee hes
   obtain ⟨dv,sq,kd,dy,bs,p⟩:=e
   obtain ⟨ae,n,c2,hn,hnil,hB,c0,c1,c2',c3,c4,c5⟩:=hek
   simp only at hn hB c0 c1 c2' c3 c4 c5
   have HNL:=hid hn
   have HBY:=hid hB
   clear hn hnil hB
   obtain ⟨xs,hxs,hrow,hnew⟩:=HX.o
   have HXS:=hid hxs
   have HXL:Hid (xs.length=k):=hid (by have:=congrArg List.length hxs;rw [List.length_map,List.length_take] at this;have:=HLE.o;omega)
   have HROW:=hid hrow
   have HNEW:=hid hnew
   clear hxs hrow hnew HX
   go_upto_region 5 with fail
   refine wp_over (fun V=>Hid (V.heap[wr.heap.size]? =some (.cells #[.int .i64 dv,.int .i64 sq,.int .i64 kd,.int .i64 dy,.slice ae n c2,.string p] 92 (0,0)))∧Hid (Below wr.heap.size wr V)) ⟨heap_alloc_new _ _,(Below.refl _ _).alloc (Nat.le_refl _) _⟩ ?_
   rintro V ⟨HG6,HV⟩
   have H5:=hid (HST.o _ _ HRW.o HV.o)
   have HBV:=hid (HBY.o.later HV.o)
   have HRV:=hid (HROW.o.later HV.o)
   have HNV:Hid (∀x ∈ xs,NewE V (N+1) x):=hid (fun x hx=>(HNEW.o x hx).later HV.o)
   have HSV:Hid (wr.heap.size≤V.heap.size):=hid HV.o.size
   obtain ⟨A6,hA6⟩:=ex_eq wr.heap.size
   rw [hA6] at HG6 HSV HSZ ⊢
   clear hA6 HV c0 c1 c2' c3 c4 c5
   obtain ⟨g0,g1,g2,g3,g4,g5⟩:=row6 HG6.o
   have hlt2:(k:Int)<(L:Int):=hki
   go_upto_region 6 with (first
    | (go_at_call 218
       (refine (cloneEntry_any dv sq kd dy ae n c2 p bs HNL.o (by have:=HBE.o;simp only at this;have:=HNL.o;omega) _ HBV.o).mono ?_)
       rintro e w6 ⟨a2,cp2,rfl,hn6,hb6,hg6,h6⟩
       have HN6:=hid hn6
       have HB6:=hid hb6
       have HG6':Hid (∀ad,a2=some ad→N+1≤ad.block):=hid (fun ad e=>by have:=hg6 ad e;have:=HSV.o;have:=HSZ.o;omega)
       have H6:=hid (HST.o _ _ H5.o h6)
       have HR6:=hid (HRV.o.later h6)
       have HN7:Hid (∀x ∈ xs,NewE w6 (N+1) x):=hid (fun x hx=>(HNV.o x hx).later h6)
       have HS6:Hid (N+1≤w6.heap.size):=hid (by have:=h6.size;have:=HSV.o;have:=HSZ.o;omega)
       obtain ⟨x0,x1,x2,x3,x4,x5,_,r0,r1,r2,r3,r4,r5,rf⟩:=HR6.o.six (fun _=>rfl) k (by rw [List.length_append,HXL.o,List.length_replicate];omega)
       clear hn6 hb6 hg6 h6 g0 g1 g2 g3 g4 g5))
   have HRP:=hid (HR6.o.put (fun _=>rfl) k (by rw [List.length_append,HXL.o,List.length_replicate];omega) (⟨⟨dv,sq,kd,dy,bs,p⟩,a2,cp2⟩:EV) (x0:= .int .i64 dv) (x1:= .int .i64 sq) (x2:= .int .i64 kd) (x3:= .int .i64 dy) (x4:= .slice a2 n cp2) (x5:= .string p) (by rw [← HNL.o];rfl))
   unfold put6 at HRP
   have HCP:Hid (Chg (fun q _=>q=N) w6 ((((((w6.setCell ⟨N,k*6,none⟩ (.int .i64 dv)).setCell ⟨N,k*6+1,none⟩ (.int .i64 sq)).setCell ⟨N,k*6+2,none⟩ (.int .i64 kd)).setCell ⟨N,k*6+3,none⟩ (.int .i64 dy)).setCell ⟨N,k*6+4,none⟩ (.slice a2 n cp2)).setCell ⟨N,k*6+5,none⟩ (.string p))):=hid (put6_chg w6 N (k*6) _ _ _ _ _ _)
   refine wp_over (fun V=>Hid (RowS EV.cells 92 V N L ((xs++List.replicate (L - k) entZV).set k ⟨⟨dv,sq,kd,dy,bs,p⟩,a2,cp2⟩))∧Hid (Chg (fun q _=>q=N) w6 V)) ⟨HRP,HCP⟩ ?_
   clear r0 r1 r2 r3 r4 r5 rf HRP HCP
   rintro V7 ⟨HRP,HCP⟩
   go_wp2_with fail
   go_roundw
   case rel=>exact ⟨k+1,hlt,by go_num,hid ⟨xs++[⟨⟨dv,sq,kd,dy,bs,p⟩,a2,cp2⟩],by rw [List.map_append,HXS.o,← List.take_append_getElem HKL.o,HEE.o];rfl,by rw [← setNext xs L k _ _ HXL.o hlt];exact HRP.o,fun x hx=>by
    rcases List.mem_append.1 hx with h | h
    ·exact (HN7.o x h).keepN HCP.o
    ·rw [List.mem_singleton] at h
     subst h
     exact NewE.keepN ⟨HN6.o,HB6.o,HG6'.o⟩ HCP.o⟩,hid (by have h:=HCP.o.below (B:=N) (by have:=HS6.o;omega) (fun q i hq h=>by omega);exact H6.o.trans h),hid (Nat.le_trans HS6.o HCP.o.size)⟩
   case measure=>simp [intOf];omega
  ·have hki: ¬(k:Int)<(L:Int):=by omega
   have hke:k=L:=by omega
   subst hke
   go_wp2_with fail
   go_ret
   obtain ⟨xs,h1,h2,h3⟩:=HX.o
   refine ⟨N,rfl,xs,by rw [h1,List.take_of_length_le (by rw [HLE.o];exact Nat.le_refl _)],by simpa using h2,by rw [HN.o];exact Nat.le_refl _,by rw [HN.o];exact h3,by rw [HN.o];exact HRW.o⟩
end Go.Proofs.YtndlihclgdkpaaaGreatDoor
namespace Go.Proofs.YtndlihclgdkpaaaGreatDoor
open Go.Proofs.YtndlihclgdkpaaaGreatDoor.One

def headB:List Nat:=[104,101,97,100]
def headIn (d q:Nat) (s:List Nat):List Nat:=num 4++headB++num d++num q++s
def headDg (d q:Nat) (s:List Nat):List Nat:=Sha.sum (headIn d q s)
theorem headDg_len (d q:Nat) (s:List Nat):(headDg d q s).length=32:=Sha.sum_length _
def HeadOk (h:Hd):Prop:=0≤h.dev∧h.dev≤11∧1≤h.seq∧h.seq≤1099511627776∧h.sum.size=32
instance (h:Hd):Decidable (HeadOk h):=by unfold HeadOk;infer_instance
def SignedH (B H:Int) (pk:List Nat) (h:Hd):Prop:=HeadOk h∧SigAcc B H pk (headDg h.dev.toNat h.seq.toNat (nb h.sum)) h.idx (h.ps.map nb) (h.qs.map nb)
instance (B H:Int) (pk:List Nat) (h:Hd):Decidable (SignedH B H pk h):=by unfold SignedH;infer_instance
def givenOf (es:List Ent) (s:List Nat):Option Ent:=es.reverse.find? fun e=>validE e && decide (sumE e=s)
theorem givenOf_some {es:List Ent} {s:List Nat} {e:Ent} (h:givenOf es s=some e):e ∈ es∧ValidE e∧sumE e=s:=by
 unfold givenOf at h
 have h1:=List.find?_some h
 simp only [Bool.and_eq_true,decide_eq_true_eq] at h1
 exact ⟨List.mem_reverse.1 (List.mem_of_find?_eq_some h),(validE_iff e).1 h1.1,h1.2⟩
theorem givenOf_snoc (es:List Ent) (e:Ent) (s:List Nat):givenOf (es++[e]) s=if validE e=true∧sumE e=s then some e else givenOf es s:=by
 unfold givenOf
 rw [List.reverse_append,List.reverse_cons,List.reverse_nil,List.nil_append,List.singleton_append,List.find?_cons]
 by_cases h:validE e=true∧sumE e=s
 ·rw [if_pos h,h.1,decide_eq_true h.2];rfl
 ·rw [if_neg h]
  have:(validE e && decide (sumE e=s))=false:=by
   cases hv:validE e with
   | false=>rfl
   | true=>
     by_cases hs:sumE e=s
     ·exact absurd ⟨hv,hs⟩ h
     ·rw [decide_eq_false hs];rfl
  rw [this]
def back (log:List Ent) (gv:List Nat→Option Ent) (d:Int):Nat→List Nat→List Ent→Option (Nat × List Ent)
 | 0,_,acc=>some (0,acc)
 | n+1,s,acc=>if (log[n]?).map sumE=some s then some (n+1,acc) else
   match gv s with
   | some x=>if x.dev=d∧x.seq=((n+1:Nat):Int) then back log gv d n (nb x.prev) (x::acc) else none
   | none=>none
def daysOk:Int→List Ent→Bool
 | _,[]=>true
 | day,x::r=>decide (day≤x.day) && daysOk x.day r
def dayAt (log:List Ent):Nat→Int
 | 0=>0
 | b+1=>match log[b]? with | some e=>e.day | none=>0
def findL (log:List Ent) (gv:List Nat→Option Ent) (h:Hd):Option (Nat × List Ent):=
 if 4096<h.seq then none else
  match back log gv h.dev h.seq.toNat (nb h.sum) [] with
  | some (b,es)=>if daysOk (dayAt log b) es=true then some (b,es) else none
  | none=>none
def forkOf (l:Lin) (b:Nat) (es:List Ent) (h:Hd):Frk:=⟨h.dev,l.log.take l.sealed',l.log.take b++es,l.head,h⟩
def mergeL (l:Lin) (gv:List Nat→Option Ent) (h:Hd):Lin × Nat:=
 match findL l.log gv h with
 | none=>(l,0)
 | some (b,es)=>
   if b<min h.seq.toNat l.sealed' then (match l.fork with | some _=>l | none=>{ l with fork:=some (forkOf l b es h) },0)
   else if h.seq.toNat≤l.sealed' then (l,0)
   else ({ l with log:=if b<h.seq.toNat then l.log.take b++es else l.log,sealed':=h.seq.toNat,head:=h },h.seq.toNat - l.sealed')

def LogOk (d:Int) (es:List Ent):Prop:= ∀(i:Nat) (h:i<es.length),es[i].dev=d∧es[i].seq=((i+1:Nat):Int)∧ValidE es[i]∧ ∀(j:Nat) (hj:i=j+1),nb es[i].prev=sumE (es[j]'(by omega))∧(es[j]'(by omega)).day≤es[i].day
theorem LogOk.take {d:Int} {es:List Ent} (h:LogOk d es) (n:Nat):LogOk d (es.take n):=fun i hi=>by
 have hi2:i<es.length:=by rw [List.length_take] at hi;omega
 obtain ⟨h1,h2,h3,h4⟩:=h i hi2
 simp only [List.getElem_take]
 exact ⟨h1,h2,h3,h4⟩
theorem LogOk.snoc {d:Int} {es:List Ent} (h:LogOk d es) (e:Ent) (h1:e.dev=d) (h2:e.seq=((es.length+1:Nat):Int)) (h3:ValidE e) (h4: ∀(j:Nat) (hj:es.length=j+1),nb e.prev=sumE (es[j]'(by omega))∧(es[j]'(by omega)).day≤e.day):LogOk d (es++[e]):=fun i hi=>by
 rw [List.length_append,List.length_singleton] at hi
 by_cases hlt:i<es.length
 ·obtain ⟨k1,k2,k3,k4⟩:=h i hlt
  rw [List.getElem_append_left hlt]
  refine ⟨k1,k2,k3,fun j hj=> ?_⟩
  rw [List.getElem_append_left (by omega)]
  exact k4 j hj
 ·obtain rfl:i=es.length:=by omega
  rw [List.getElem_append_right (Nat.le_refl _)]
  simp only [Nat.sub_self,List.getElem_cons_zero]
  refine ⟨h1,h2,h3,fun j hj=> ?_⟩
  rw [List.getElem_append_left (by omega)]
  exact h4 j hj
theorem back_spec {log:List Ent} {gv:List Nat→Option Ent} {d:Int} (hg: ∀s e,gv s=some e→ValidE e∧sumE e=s): ∀(n:Nat) (s:List Nat) (acc:List Ent) (b:Nat) (es:List Ent),back log gv d n s acc=some (b,es)→
    ∃new,es=new++acc∧b+new.length=n∧b≤log.length∧(∀(i:Nat) (h:i<new.length),new[i].dev=d∧new[i].seq=((b+i+1:Nat):Int)∧ValidE new[i]∧ ∀(j:Nat) (hj:i=j+1),nb new[i].prev=sumE (new[j]'(by omega)))∧
     (∀(h:0<new.length) (c:Nat),b=c+1→ ∃e,log[c]? =some e∧nb new[0].prev=sumE e)∧
     (∀(h:0<new.length),sumE (new[new.length - 1]'(by omega))=s)∧(new=[]→n≠0→(log[n - 1]?).map sumE=some s)∧(∀(h:0<new.length) e,log[b]? =some e→sumE e≠sumE new[0])
 | 0,s,acc,b,es,h=>by
   rw [back] at h
   cases h
   exact ⟨[],rfl,rfl,Nat.zero_le _,fun i h=>by simp at h,fun h=>by simp at h,fun h=>by simp at h,fun _ h=>absurd rfl h,fun h=>by simp at h⟩
 | n+1,s,acc,b,es,h=>by
   rw [back] at h
   split at h
   ·rename_i hs
    cases h
    have hlt:n<log.length:=by
     rcases Nat.lt_or_ge n log.length with h | h
     ·exact h
     ·rw [List.getElem?_eq_none h] at hs;simp at hs
    exact ⟨[],rfl,rfl,by omega,fun i h=>by simp at h,fun h=>by simp at h,fun h=>by simp at h,fun _ _=>hs,fun h=>by simp at h⟩
   ·rename_i hs
    split at h
    ·rename_i x hx
     split at h
     ·rename_i hc
      obtain ⟨hv,hsx⟩:=hg _ _ hx
      obtain ⟨new,h1,h2,h3,h4,h5,h6,h7,h8⟩:=back_spec hg n (nb x.prev) (x::acc) b es h
      have hlen:(new++[x]).length=new.length+1:=by simp
      refine ⟨new++[x],by rw [h1,List.append_assoc];rfl,by rw [hlen];omega,h3,?_,?_,?_,?_,?_⟩
      ·intro i hi
       rw [hlen] at hi
       by_cases hlt:i<new.length
       ·obtain ⟨k1,k2,k3,k4⟩:=h4 i hlt
        rw [List.getElem_append_left hlt]
        refine ⟨k1,k2,k3,fun j hj=> ?_⟩
        rw [List.getElem_append_left (by omega)]
        exact k4 j hj
       ·obtain rfl:i=new.length:=by omega
        rw [List.getElem_append_right (Nat.le_refl _)]
        simp only [Nat.sub_self,List.getElem_cons_zero]
        refine ⟨hc.1,by rw [hc.2];congr 1;omega,hv,fun j hj=> ?_⟩
        rw [List.getElem_append_left (by omega)]
        have:=h6 (by omega)
        rw [← this]
        congr 2
        omega
      ·intro _ c hb
       by_cases hz:0<new.length
       ·obtain ⟨e,he1,he2⟩:=h5 hz c hb
        exact ⟨e,he1,by rw [List.getElem_append_left hz];exact he2⟩
       ·have hnil:new=[]:=List.eq_nil_of_length_eq_zero (by omega)
        subst hnil
        have hn:n=c+1:=by simp at h2;omega
        have:=h7 rfl (by omega)
        rw [show n - 1=c by omega] at this
        obtain ⟨e,he1,he2⟩:=Option.map_eq_some_iff.1 this
        exact ⟨e,he1,he2.symm⟩
      ·intro _
       have:(new++[x])[(new++[x]).length - 1]'(by simp)=x:=by simp
       rw [this]
       exact hsx
      ·intro h0 _
       simp at h0
      ·intro _ e he
       by_cases hz:0<new.length
       ·rw [List.getElem_append_left hz]
        exact h8 hz e he
       ·have hnil:new=[]:=List.eq_nil_of_length_eq_zero (by omega)
        subst hnil
        have hn:n=b:=by simp at h2;omega
        subst hn
        intro h9
        apply hs
        rw [he]
        simp only [List.nil_append,List.getElem_cons_zero] at h9
        show some (sumE e)=_
        rw [h9,hsx]
     ·cases h
    ·cases h
theorem daysOk_spec: ∀(es:List Ent) (day:Int),daysOk day es=true→(∀(h:0<es.length),day≤es[0].day)∧ ∀(i j:Nat) (h:i<es.length) (hj:i=j+1),(es[j]'(by omega)).day≤es[i].day
 | [],day,h=>⟨fun h=>by simp at h,fun i j h=>by simp at h⟩
 | x::r,day,h=>by
   rw [daysOk,Bool.and_eq_true,decide_eq_true_eq] at h
   obtain ⟨h1,h2⟩:=h
   obtain ⟨k1,k2⟩:=daysOk_spec r x.day h2
   refine ⟨fun _=>h1,fun i j hi hj=> ?_⟩
   subst hj
   cases j with
   | zero=>exact k1 (by simpa using hi)
   | succ j=>exact k2 (j+1) j (by simpa using hi) rfl
structure CoversH (h:Hd) (es:List Ent):Prop where
 log:LogOk h.dev es
 len:(es.length:Int)=h.seq
 most:es.length≤4096
 last: ∀(hl:0<es.length),sumE (es[es.length - 1]'(by omega))=nb h.sum
theorem findL_ok {log:List Ent} {gv:List Nat→Option Ent} {h:Hd} (hg: ∀s e,gv s=some e→ValidE e∧sumE e=s) (hlog:LogOk h.dev log) (hseq:1≤h.seq) {b:Nat} {es:List Ent} (hf:findL log gv h=some (b,es)):
    b+es.length=h.seq.toNat∧b≤log.length∧CoversH h (log.take b++es)∧(∀(h0:0<es.length) e,log[b]? =some e→sumE e≠sumE es[0]):=by
 unfold findL at hf
 split at hf
 ·cases hf
 ·rename_i hm
  split at hf
  ·rename_i b' es' hb
   split at hf
   ·rename_i hd
    cases hf
    obtain ⟨new,h1,h2,h3,h4,h5,h6,h7,h8⟩:=back_spec hg _ _ _ _ _ hb
    rw [List.append_nil] at h1
    subst h1
    obtain ⟨d1,d2⟩:=daysOk_spec _ _ hd
    have hlen:(log.take b++es).length=h.seq.toNat:=by rw [List.length_append,List.length_take,Nat.min_eq_left h3];exact h2
    refine ⟨h2,h3,⟨fun i hi=> ?_,by rw [hlen];omega,by omega,fun hl=> ?_⟩,h8⟩
    ·by_cases hlt:i<b
     ·have hi2:i<(log.take b).length:=by rw [List.length_take];omega
      obtain ⟨k1,k2,k3,k4⟩:=hlog i (by omega)
      rw [List.getElem_append_left hi2,List.getElem_take]
      refine ⟨k1,k2,k3,fun j hj=> ?_⟩
      rw [List.getElem_append_left (by omega),List.getElem_take]
      exact k4 j hj
     ·have hbl:(log.take b).length=b:=by rw [List.length_take];omega
      have hi3:i - b<es.length:=by rw [hlen] at hi;omega
      have hget: ∀(q:Nat) (hq:q<(log.take b++es).length) (hq2:b≤q),(log.take b++es)[q]=es[q - b]'(by rw [List.length_append,hbl] at hq;omega):=fun q hq hq2=>by
       rw [List.getElem_append_right (by rw [hbl];exact hq2)]
       congr 1
       rw [hbl]
      obtain ⟨k1,k2,k3,k4⟩:=h4 (i - b) hi3
      rw [hget i hi (by omega)]
      refine ⟨k1,by rw [k2];congr 1;omega,k3,fun j hj=> ?_⟩
      by_cases hjb:j<b
      ·have hib:i=b:=by omega
       subst hib
       have hjl:j<log.length:=by omega
       rw [List.getElem_append_left (by rw [hbl];exact hjb),List.getElem_take]
       have hz:0<es.length:=by omega
       obtain ⟨e,he1,he2⟩:=h5 hz j hj
       have hee:log[j]=e:=by rw [lE hjl] at he1;exact Option.some.inj he1
       simp only [Nat.sub_self]
       rw [hee]
       refine ⟨he2,?_⟩
       have:=d1 hz
       rw [hj,dayAt,he1] at this
       exact this
      ·rw [hget j (by omega) (by omega)]
       exact ⟨k4 (j - b) (by omega),d2 (i - b) (j - b) hi3 (by omega)⟩
    ·by_cases hz:0<es.length
     ·rw [← h6 hz]
      congr 1
      rw [List.getElem_append_right (by rw [List.length_append,List.length_take];omega)]
      congr 1
      rw [List.length_append]
      omega
     ·have hnil:es=[]:=List.eq_nil_of_length_eq_zero (by omega)
      subst hnil
      have hn0:h.seq.toNat≠0:=by omega
      have:=h7 rfl hn0
      obtain ⟨e,he1,he2⟩:=Option.map_eq_some_iff.1 this
      rw [← he2]
      congr 1
      have hbn:b=h.seq.toNat:=by simpa using h2
      subst hbn
      have hl2:h.seq.toNat - 1<log.length:=by omega
      rw [lE hl2] at he1
      rw [← Option.some.inj he1]
      simp only [List.append_nil,List.length_take,List.getElem_take]
      congr 1
      omega
   ·cases hf
  ·cases hf
structure ProvesF (B H:Int) (pk:List Nat) (f:Frk):Prop where
 dev0:f.h0.dev=f.dev
 dev1:f.h1.dev=f.dev
 sig0:SignedH B H pk f.h0
 sig1:SignedH B H pk f.h1
 cov0:CoversH f.h0 f.l0
 cov1:CoversH f.h1 f.l1
 differ: ∃(i:Nat) (h0:i<f.l0.length) (h1:i<f.l1.length),f.l0[i]≠f.l1[i]
structure GoodL (B H:Int) (d:Int) (l:Lin):Prop where
 log:LogOk d l.log
 most:l.log.length≤4096
 sealed:l.sealed'≤l.log.length
 head:l.sealed'≠0→l.head.dev=d∧SignedH B H (nb l.pub) l.head∧CoversH l.head (l.log.take l.sealed')
 fork: ∀f,l.fork=some f→f.dev=d∧ProvesF B H (nb l.pub) f
theorem mergeL_good {B H d:Int} {l:Lin} {gv:List Nat→Option Ent} {h:Hd} (hg: ∀s e,gv s=some e→ValidE e∧sumE e=s) (hl:GoodL B H d l) (hd:h.dev=d) (hs:SignedH B H (nb l.pub) h):GoodL B H d (mergeL l gv h).1:=by
 unfold mergeL
 subst hd
 have hq1:1≤h.seq:=hs.1.2.2.1
 cases hf:findL l.log gv h with
 | none=>exact hl
 | some q=>
   obtain ⟨b,es⟩:=q
   obtain ⟨f1,f2,f3,f4⟩:=findL_ok hg hl.log hq1 hf
   simp only
   split
   ·rename_i hb
    cases hk:l.fork with
    | some f=>exact hl
    | none=>
      refine ⟨hl.log,hl.most,hl.sealed,hl.head,fun f e=> ?_⟩
      have e':forkOf l b es h=f:=Option.some.inj e
      subst e'
      have hs0:l.sealed'≠0:=by omega
      obtain ⟨g1,g2,g3⟩:=hl.head hs0
      refine ⟨rfl,⟨g1,rfl,g2,hs,g3,f3,b,?_,?_,?_⟩⟩
      ·show b<(l.log.take l.sealed').length
       rw [List.length_take];have:=hl.sealed;omega
      ·show b<(l.log.take b++es).length
       rw [List.length_append,List.length_take];omega
      ·have hes:0<es.length:=by omega
       have hbl:b<l.log.length:=by have:=hl.sealed;omega
       show (l.log.take l.sealed')[b]'_≠(l.log.take b++es)[b]'_
       rw [List.getElem_take,List.getElem_append_right (by rw [List.length_take];omega)]
       intro h9
       refine f4 hes _ (lE hbl) ?_
       rw [h9]
       congr 1
       congr 1
       rw [List.length_take];omega
   ·rename_i hb
    split
    ·exact hl
    ·rename_i hsl
     have hlen:(l.log.take b++es).length=h.seq.toNat:=by rw [List.length_append,List.length_take,Nat.min_eq_left f2];exact f1
     by_cases hbs:b<h.seq.toNat
     ·rw [if_pos hbs]
      refine ⟨f3.log,f3.most,by rw [hlen];exact Nat.le_refl _,fun _=>⟨rfl,hs,?_⟩,hl.fork⟩
      show CoversH h ((l.log.take b++es).take h.seq.toNat)
      rw [List.take_of_length_le (by rw [hlen];exact Nat.le_refl _)]
      exact f3
     ·rw [if_neg hbs]
      have hbe:b=h.seq.toNat:=by omega
      have hz:es=[]:=List.eq_nil_of_length_eq_zero (by omega)
      subst hz
      rw [List.append_nil,hbe] at f3
      exact ⟨hl.log,hl.most,by show h.seq.toNat≤l.log.length;omega,fun _=>⟨rfl,hs,f3⟩,hl.fork⟩
theorem mergeL_keep {B H d:Int} {l:Lin} {gv:List Nat→Option Ent} {h:Hd} (hg: ∀s e,gv s=some e→ValidE e∧sumE e=s) (hl:GoodL B H d l) (hd:h.dev=d) (hs:SignedH B H (nb l.pub) h):l.sealed'≤(mergeL l gv h).1.sealed'∧(mergeL l gv h).1.log.take l.sealed'=l.log.take l.sealed'∧(mergeL l gv h).1.pub=l.pub∧(mergeL l gv h).1.sealed'=l.sealed'+(mergeL l gv h).2:=by
 unfold mergeL
 subst hd
 have hq1:1≤h.seq:=hs.1.2.2.1
 cases hf:findL l.log gv h with
 | none=>exact ⟨Nat.le_refl _,rfl,rfl,rfl⟩
 | some q=>
   obtain ⟨b,es⟩:=q
   obtain ⟨f1,f2,f3,f4⟩:=findL_ok hg hl.log hq1 hf
   simp only
   split
   ·cases hk:l.fork with
    | some f=>exact ⟨Nat.le_refl _,rfl,rfl,rfl⟩
    | none=>exact ⟨Nat.le_refl _,rfl,rfl,rfl⟩
   ·rename_i hb
    split
    ·exact ⟨Nat.le_refl _,rfl,rfl,rfl⟩
    ·rename_i hsl
     refine ⟨by show l.sealed'≤h.seq.toNat;omega,?_,rfl,by show h.seq.toNat=l.sealed'+(h.seq.toNat - l.sealed');omega⟩
     by_cases hbs:b<h.seq.toNat
     ·show (if b<h.seq.toNat then l.log.take b++es else l.log).take l.sealed'=_
      rw [if_pos hbs,List.take_append_of_le_length (by rw [List.length_take];omega),List.take_take,Nat.min_eq_left (by omega)]
     ·show (if b<h.seq.toNat then l.log.take b++es else l.log).take l.sealed'=_
      rw [if_neg hbs]
end Go.Proofs.YtndlihclgdkpaaaGreatDoor
namespace Go.Proofs.YtndlihclgdkpaaaGreatDoor
open Go.RowKit
open Kit (Chg)
open Sha (v)
open Go.Maps
open Go.WideMaps
open Go.Proofs.YtndlihclgdkpaaaGreatDoor.One

theorem strKeyed:Keyed Tryz.prog 9:=string_keyed Tryz.underlying9
def rv (v:Value):Option (DataW Value × List MemPlace):=some (.held v,[])
def entZ:Value:= .agg #[.int .i64 0,.int .i64 0,.int .i64 0,.int .i64 0,.slice none 0 0,.string ByteArray.empty]
theorem entZ_zero (w:World):(zeroValue 92).run Tryz.prog w= .ok entZ w:=by kernel_rfl
def keyL (s:ByteArray):Lit:= .string s.data.toList
theorem keyL_inj {s t:ByteArray} (h:keyL s=keyL t):nb s=nb t:=by
 unfold keyL at h
 have h1:s.data.toList=t.data.toList:=by injection h
 have h2:s.data=t.data:=Array.ext' h1
 have h3:s=t:=by cases s;cases t;simp_all
 rw [h3]
theorem keyL_of {s:ByteArray} (hs:s.size≤maxLen):keyOf Tryz.prog 9 (.string s)=some (keyL s):=keyOf_string_mk Tryz.underlying9 hs
def MapG (w:World) (b n:Nat) (f:List Nat→Option Value):Prop:= ∃D:DataW Value,w.ownsMap Tryz.prog 9 rv b n D∧ ∀s:ByteArray,Maps.has D (keyL s)=(f (nb s)).isSome∧ ∀v,f (nb s)=some v→ ∀z,D.atKey (keyL s) z= .held v
theorem MapG.start (w:World):MapG (w.alloc (.map #[] 0)) w.heap.size 0 (fun _=>none):=
 ⟨.map [],World.ownsMap_made w Tryz.prog 9 rv,fun s=>⟨rfl,fun v h=>by cases h⟩⟩
theorem MapG.lt {w:World} {b n:Nat} {f:List Nat→Option Value} (h:MapG w b n f):b<w.heap.size:=by
 obtain ⟨D,h,_⟩:=h
 exact h.lt
theorem MapG.keep {w w':World} {b n:Nat} {f:List Nat→Option Value} (h:MapG w b n f) (he:w'.heap[b]? =w.heap[b]?):MapG w' b n f:=by
 obtain ⟨D,⟨es,clock,hb,F,hs,hD⟩,h2⟩:=h
 exact ⟨D,⟨es,clock,he.trans hb,F,hs,hD⟩,h2⟩
theorem MapG.later {w w':World} {b n:Nat} {f:List Nat→Option Value} (h:MapG w b n f) (hb:Below w.heap.size w w'):MapG w' b n f:=h.keep (hb.block b h.lt)
theorem MapG.step {w w':World} {G G':Nat→Nat} {T:Nat→Prop} {b n:Nat} {f:List Nat→Option Value} (h:MapG w b n f) (hs:Step G G' T w w') (hT: ¬T (G b)):MapG w' b n f:=h.keep (hs.chg.other b h.lt (fun _ hm=>hT hm))
theorem MapG.look {w:World} {b n:Nat} {f:List Nat→Option Value} (h:MapG w b n f) (s:ByteArray) (hs:s.size≤maxLen):(Instr.lookup 226 (.map (some b)) (.string s) true).run Tryz.prog w= .ok (.tuple #[(f (nb s)).getD entZ,.bool (f (nb s)).isSome]) w:=by
 obtain ⟨D,h1,h2⟩:=h
 obtain ⟨v,ps,hrun,hv⟩:=h1.look_ok strKeyed Tryz.underlying226 (entZ_zero w) (zd:= .held entZ) (zp:=[]) rfl (keyL_of hs)
 obtain ⟨k1,k2⟩:=h2 s
 have hv':v=(f (nb s)).getD entZ:=by
  unfold rv at hv
  have e:DataW.held v=D.atKey (keyL s) (.held entZ):=by
   have:=Option.some.inj hv
   exact congrArg Prod.fst this
  cases hf:f (nb s) with
  | none=>
    rw [hf] at k1
    rw [Maps.atKey_of_not_has k1] at e
    injection e
  | some u=>
    rw [k2 u hf] at e
    injection e
 rw [hrun,hv',k1]
theorem MapG.put {w:World} {b n:Nat} {f:List Nat→Option Value} (h:MapG w b n f) (hn:n<maxLen) (s:ByteArray) (hs:s.size≤maxLen) (v:Value): ∃w',(Instr.mapUpdate 226 (.map (some b)) (.string s) v).run Tryz.prog w= .ok () w'∧MapG w' b (n+1) (fun t=>if t=nb s then some v else f t)∧w.grownBy w' (some b):=by
 obtain ⟨D,h1,h2⟩:=h
 obtain ⟨w',hrun,h3,h4⟩:=h1.update strKeyed Tryz.underlying226 hn (keyL_of hs) (val:=v) (d:= .held v) (ps:=[]) rfl
 refine ⟨w',hrun,⟨_,h3,fun t=> ?_⟩,h4⟩
 have hD:IsMap D:=h1.isMap
 have hk:WideAt.IsKeyLit (keyL s):=strKeyed.key (keyL_of hs)
 by_cases e:nb t=nb s
 ·obtain rfl:t=s:=nb_inj e
  simp only [if_pos]
  refine ⟨by rw [Maps.has_put_same hD hk];rfl,fun u hu z=> ?_⟩
  cases hu
  exact Maps.atKey_put_same hD hk _ _
 ·have hne:keyL t≠keyL s:=fun h=>e (keyL_inj h)
  simp only [if_neg e]
  obtain ⟨k1,k2⟩:=h2 t
  refine ⟨by rw [Maps.has_put_other hne];exact k1,fun u hu z=> ?_⟩
  rw [Maps.atKey_put_other hne]
  exact k2 u hu z
def EV.val (x:EV):Value:= .agg #[.int .i64 x.e.dev,.int .i64 x.e.seq,.int .i64 x.e.kind,.int .i64 x.e.day,.slice x.a x.e.body.length x.c,.string x.e.prev]
def givenV (xs:List EV) (s:List Nat):Option EV:=xs.reverse.find? fun x=>validE x.e && decide (sumE x.e=s)
theorem givenV_snoc (xs:List EV) (x:EV) (s:List Nat):givenV (xs++[x]) s=if validE x.e=true∧sumE x.e=s then some x else givenV xs s:=by
 unfold givenV
 rw [List.reverse_append,List.reverse_cons,List.reverse_nil,List.nil_append,List.singleton_append,List.find?_cons]
 by_cases h:validE x.e=true∧sumE x.e=s
 ·rw [if_pos h,h.1,decide_eq_true h.2];rfl
 ·rw [if_neg h]
  have:(validE x.e && decide (sumE x.e=s))=false:=by
   cases hv:validE x.e with
   | false=>rfl
   | true=>
     by_cases hs:sumE x.e=s
     ·exact absurd ⟨hv,hs⟩ h
     ·rw [decide_eq_false hs];rfl
  rw [this]
theorem givenV_mem {xs:List EV} {s:List Nat} {x:EV} (h:givenV xs s=some x):x ∈ xs:=List.mem_reverse.1 (List.mem_of_find?_eq_some h)
theorem givenV_of (xs:List EV) (s:List Nat):(givenV xs s).map EV.e=givenOf (xs.map EV.e) s:=by
 unfold givenV givenOf
 rw [← List.map_reverse,List.find?_map]
 rfl
def MapE (w:World) (b n:Nat) (xs:List EV):Prop:=MapG w b n (fun s=>(givenV xs s).map EV.val)
theorem MapE.bad {w:World} {b n:Nat} {xs:List EV} {x:EV} (h:MapE w b n xs) (hv:validE x.e=false):MapE w b n (xs++[x]):=by
 have:(fun s=>(givenV (xs++[x]) s).map EV.val)=fun s=>(givenV xs s).map EV.val:=by
  funext s
  rw [givenV_snoc,if_neg (by rw [hv];simp)]
 unfold MapE
 rw [this]
 exact h
theorem MapE.put {w:World} {b n:Nat} {xs:List EV} {x:EV} (h:MapE w b n xs) (hn:n<maxLen) (hv:validE x.e=true) (s:ByteArray) (hs:nb s=sumE x.e) (hs2:s.size≤maxLen): ∃w',(Instr.mapUpdate 226 (.map (some b)) (.string s) x.val).run Tryz.prog w= .ok () w'∧MapE w' b (n+1) (xs++[x])∧w.grownBy w' (some b):=by
 obtain ⟨w',h1,h2,h3⟩:=MapG.put h hn s hs2 x.val
 refine ⟨w',h1,?_,h3⟩
 unfold MapE
 have:(fun s=>(givenV (xs++[x]) s).map EV.val)=fun t=>if t=nb s then some x.val else (givenV xs t).map EV.val:=by
  funext t
  rw [givenV_snoc,hs]
  by_cases e:sumE x.e=t
  ·rw [if_pos ⟨hv,e⟩,if_pos e.symm];rfl
  ·rw [if_neg (fun h=>e h.2),if_neg (fun h=>e h.symm)]
 rw [this]
 exact h2
end Go.Proofs.YtndlihclgdkpaaaGreatDoor
namespace Go.Proofs.YtndlihclgdkpaaaGreatDoor
open Go.RowKit
open Kit (Chg)
open Sha (v)
open Go.Proofs.YtndlihclgdkpaaaGreatDoor.One

def tagAt (G:Nat→Nat) (v:Value) (t:Nat):Nat→Nat:=fun q=>if v.ownBlock=some q then t else G q
theorem tagAt_own {G:Nat→Nat} {v:Value} {t b:Nat} (h:v.ownBlock=some b):tagAt G v t b=t:=if_pos h
theorem tagAt_old {G:Nat→Nat} {v v':Value} {t M:Nat} (hv: ∀b,v.ownBlock=some b→G b=t) (hat:v'.ownBlock=v.ownBlock∨v'.ownBlock=some M): ∀q,q<M→tagAt G v' t q=G q:=fun q hq=>by
 unfold tagAt
 split
 ·rename_i h
  rcases hat with e | e
  ·rw [e] at h
   exact (hv q h).symm
  ·rw [e] at h
   injection h with h
   omega
 ·rfl
def putTag (G:Nat→Nat) (b t:Nat):Nat→Nat:=fun q=>if q=b then t else G q
theorem putTag_same (G:Nat→Nat) (b t:Nat):putTag G b t b=t:=if_pos rfl
theorem putTag_ne {G:Nat→Nat} {b t q:Nat} (h:q≠b):putTag G b t q=G q:=if_neg h
theorem own_some {w:World} {base e size n:Nat} {v:Value} {xs:List Value} (h:w.ownsRow base e size v n xs) (hn:0<n): ∃bl cap,v= .slice (some ⟨bl,0,none⟩) n cap:=by
 rcases h.2 with ⟨_,h0⟩ | ⟨g,cap,cur,e,_⟩
 ·omega
 ·exact ⟨g,cap,e⟩
def ptrV (gs:List Nat):List Value:=gs.map fun g=>Value.pointer (some ⟨g,0,none⟩)
theorem ptrs_of_own {w:World} {base n:Nat} {T:TypeId} {v:Value} {gs:List Nat} (h:w.ownsRow base T 1 v n (ptrV gs)):n=gs.length∧ ∃a cap,v= .slice a n cap∧n≤cap∧(a=none→cap=0)∧ ∀i,i<gs.length→ ∃b,a=some ⟨b,0,none⟩∧w.cell? ⟨b,i,none⟩=some (.pointer (some ⟨gs.getD i 0,0,none⟩)):=by
 obtain ⟨hl,hv⟩:=h
 have hn:n=gs.length:=by simp [ptrV] at hl;omega
 refine ⟨hn,?_⟩
 rcases hv with ⟨rfl,h0⟩ | ⟨g,cap,cur,rfl,hbg,hg,hnc,hcm,hcs,htake⟩
 ·exact ⟨none,0,by rw [h0],by omega,fun _=>rfl,fun i hi=>by omega⟩
 ·refine ⟨some ⟨g,0,none⟩,cap,rfl,hnc,(fun e=>by cases e),fun i hi=>⟨g,rfl,?_⟩⟩
  rw [cell_of_row _ _ _ _ _ _ hg]
  have h1:(ptrV gs)[i]? =some (.pointer (some ⟨gs.getD i 0,0,none⟩)):=by simp [ptrV,hi]
  rw [← htake,Nat.mul_one,List.getElem?_take_of_lt (by omega)] at h1
  simpa using h1
theorem store_cells {w:World} {p:Nat} {B H:Int} {vr:Value} (h:w.heap[p]? =some (.cells #[.int .i64 B,.int .i64 H,vr] 217 (0,0))):w.cell? ⟨p,0,none⟩=some (.int .i64 B)∧w.cell? ⟨p,1,none⟩=some (.int .i64 H)∧w.cell? ⟨p,2,none⟩=some vr∧ ∀i,w.frozen? ⟨p,i,none⟩=false:=
 ⟨cr h,cr h,cr h,fun i=>frozen_of_row _ _ _ _ _ h⟩
theorem line_cells {w:World} {g:Nat} {pub:ByteArray} {vl vs:Value} {sd:Int} {h:HV} {fk:Bool} {f0 f1 f2 f3 f4 f5 f6 f7 f8 f9 f10 f11 f12 f13 f14:Value} (hg:w.heap[g]? =some (.cells (lineRow pub vl vs sd h fk f0 f1 f2 f3 f4 f5 f6 f7 f8 f9 f10 f11 f12 f13 f14) 222 (0,0))):
    w.cell? ⟨g,0,none⟩=some (.string pub)∧w.cell? ⟨g,1,none⟩=some vl∧w.cell? ⟨g,2,none⟩=some vs∧w.cell? ⟨g,3,none⟩=some (.int .i64 sd)∧(w.cell? ⟨g,4,none⟩=some (.int .i64 h.h.dev)∧w.cell? ⟨g,5,none⟩=some (.int .i64 h.h.seq)∧w.cell? ⟨g,6,none⟩=some (.string h.h.sum)∧w.cell? ⟨g,7,none⟩=some (.int .i64 h.h.idx)∧w.cell? ⟨g,8,none⟩=some (.slice h.a1 h.h.ps.length h.c1)∧w.cell? ⟨g,9,none⟩=some (.slice h.a2 h.h.qs.length h.c2))∧w.cell? ⟨g,10,none⟩=some (.bool fk)∧ ∀i,w.frozen? ⟨g,i,none⟩=false:=
 ⟨cr hg,cr hg,cr hg,cr hg,⟨cr hg,cr hg,cr hg,cr hg,cr hg,cr hg⟩,cr hg,fun i=>frozen_of_row _ _ _ _ _ hg⟩
theorem has_any {G:Nat→Nat} {s p:Nat} {B H:Int} {ls:List Lin} (d:Int) (w:World) (h:StoreAt w G s p B H ls) (hl:ls.length≤1000):Calls Tryz.prog 154 #[.pointer (some ⟨p,0,none⟩),.int .i64 d] w fun e w'=>e= .returned (.bool (decide (0≤d∧d<(ls.length:Int))))∧w=w':=by
 obtain ⟨vr,gs,h⟩:=h
 obtain ⟨_,a,cap,rfl,_⟩:=ptrs_of_own h.lines
 obtain ⟨c0,c1,c2,cf⟩:=store_cells h.row
 have hlen:=h.len
 have HL:=hid hlen
 clear h
 obtain ⟨D,hD⟩:=ex_eq (decide (0≤d∧d<(ls.length:Int)))
 rw [hD]
 by_cases h0:0≤d
 ·have hg0:decide (d ≥ 0)=true:=decide_eq_true h0
  by_cases h1:d<(gs.length:Int)
  ·have HD:Hid (D=true):=hid (hD.symm.trans (decide_eq_true ⟨h0,by omega⟩))
   clear hlen hD
   go_enter Tryz.func154,Tryz.ntmps154
   go_wp2
   go_ret
   rw [HD.o]
   first | rfl | simp
  ·have HD:Hid (D=false):=hid (hD.symm.trans (decide_eq_false (fun h=>by have:=h.2;omega)))
   clear hlen hD
   go_enter Tryz.func154,Tryz.ntmps154
   go_wp2
   go_ret
   rw [HD.o]
   first | rfl | simp
 ·have HD:Hid (D=false):=hid (hD.symm.trans (decide_eq_false (fun h=>h0 h.1)))
  have hg0:decide (d ≥ 0)=false:=decide_eq_false h0
  clear hlen hD
  go_enter Tryz.func154,Tryz.ntmps154
  go_wp2
  go_ret
  rw [HD.o]
  first | rfl | simp
theorem Tryz.infoLine:(Tryz.prog.info? 220).map (fun i=>(i.zero,i.size,i.bytes))=some (some (.pointer none),1,8):=by kernel_rfl
def hvZero:HV:=⟨Hd.zero,none,0,none,0⟩
def lin0 (pub:ByteArray):Lin:=⟨pub,[],0,Hd.zero,none⟩
theorem lin0_at {w:World} {G:Nat→Nat} {t g:Nat} {pub:ByteArray} (hg:w.heap[g]? =some (.cells (lineRow pub (.slice none 0 0) (.slice none 0 0) 0 hvZero false (.int .i64 0) (.slice none 0 0) (.slice none 0 0) (.int .i64 0) (.int .i64 0) (.string ByteArray.empty) (.int .i64 0) (.slice none 0 0) (.slice none 0 0) (.int .i64 0) (.int .i64 0) (.string ByteArray.empty) (.int .i64 0) (.slice none 0 0) (.slice none 0 0)) 222 (0,0))) (ht:G g=t):LineAt w G t g (lin0 pub):=
 ⟨_,_,[],hvZero,_,_,_,_,_,_,_,_,_,_,_,_,_,_,_,⟨hg,ht,⟨[],rfl,World.ownsRow_nil _ _ _ _,fun b h=>by simp [Value.ownBlock] at h,by simp⟩,World.ownsRow_nil _ _ _ _,fun b h=>by simp [Value.ownBlock] at h,rfl,rfl,⟨.inl rfl,.inl rfl,fun h=>absurd rfl h,fun h=>absurd rfl h⟩,trivial⟩⟩
theorem admit_ok {G:Nat→Nat} {s p N:Nat} {B H:Int} {ls:List Lin} (pub:ByteArray) (hp:pub.size=32) (hl:ls.length≤11) (w:World) (h:StoreAt w G s p B H ls) (hO:Own w G N) (h0:0<s):
    Calls Tryz.prog 143 #[.pointer (some ⟨p,0,none⟩),.string pub] w fun e w'=> ∃G',e= .returned (.int .i64 0)∧StoreAt w' G' s p B H (ls++[lin0 pub])∧Own w' G' N∧Step G G' (fun t=>t=s) w w'∧(∀q,G' q=G q∨G' q=s∨G' q=s+1+ls.length):=by
 obtain ⟨vr,gs,h⟩:=h
 have HS:=hid h
 have HO:=hid hO
 obtain ⟨c0,c1,c2,cf⟩:=store_cells h.row
 have hlen:=h.len
 have hvr:=h.lines
 obtain ⟨_,a0,cap0,rfl,_,_,_⟩:=ptrs_of_own hvr
 have HLE:Hid (gs.length≤11):=hid (by omega)
 have HLN:=hid hlen
 have hpz:((pub.size:Nat):Int)=32:=by omega
 have hln: ¬(12:Int)≤(gs.length:Int):=by omega
 have hln2:decide ((gs.length:Int) ≥ 12)=false:=decide_eq_false (by omega)
 have hpl:p<w.heap.size:=(gS h.row).1
 have hpr:some p≠(Value.slice a0 gs.length cap0).ownBlock:=not_row_of h.lines h.row (by decide)
 have HK:Hid (∀o1 o2 V,((w.alloc o1).alloc o2).grownBy V (Value.slice a0 gs.length cap0).ownBlock→V.heap[p]? =w.heap[p]? ∧Chg (fun k _=>G k=s) w V∧V.heap[w.heap.size]? =some o1):=hid (fun o1 o2 V hg=>by
  refine ⟨(hg.block p (by simp;omega) hpr).trans ((Below.heap_alloc _ _ _ (by simp;omega)).trans (Below.heap_alloc _ _ _ hpl)),((Chg.alloc1 w o1).alloc o2).trans (Chg.of_grown hg (fun k i e=>h.ltag k e)),(hg.block w.heap.size (by simp;omega) (fun e=>by have:=(h.lines.lt _ e.symm).2;omega)).trans ((Below.heap_alloc _ _ _ (by simp)).trans (heap_alloc_new _ _))⟩)
 have HCN:Hid (∀c,∀j u,[Value.pointer (some ⟨w.heap.size,0,none⟩)][j]? =some u→((w.alloc c).alloc (.cells #[.pointer (some ⟨w.heap.size,0,none⟩)] 220)).cell? ((⟨w.heap.size+1,0,none⟩:Addr).add j)=some u):=hid (fun c=>by
  have h:=cell_one_new (w.alloc c) (.pointer (some ⟨w.heap.size,0,none⟩)) 220
  rwa [World.size_alloc] at h)
 have HPL:=hid hpl
 have HPR:=hid hpr
 clear h hO hvr hlen hl hp hpl hpr
 obtain ⟨i0,hi,hz0,hz1,hz2⟩:=info_parts Tryz.infoLine
 go_enter Tryz.func143,Tryz.ntmps143
 go_upto_region 6 with (first
  | (at_builtin
     refine wpList_append_own_at _ rfl _ _ 215 rfl 0 220 i0 (.pointer none) 1 8 Tryz.underlying215 hi hz0 hz1 hz2 rfl (by decide) (.slice a0 gs.length cap0) gs.length (ptrV gs) (by rfl) ((HS.o.lines.alloc _).alloc _) ⟨w.heap.size+1,0,none⟩ 1 _ [.pointer (some ⟨w.heap.size,0,none⟩)] (by rfl) rfl (HCN.o _) (by simp [Value.oneCell']) (by have:=HLE.o;unfold maxLen;omega) (by have:=HLE.o;omega) (Nat.zero_le _) ?_
     intro v4 w4 ho4 hg4 _ hat4
     obtain ⟨bl4,cp4,rfl⟩:=own_some ho4 (Nat.succ_pos _)
     have HO4:=hid ho4
     have HAT:=hid hat4
     have HK4:=hid (HK.o _ _ _ hg4)
     have HSZ4:Hid (w.heap.size+2≤w4.heap.size):=hid (by have:=hg4.size;simpa using this)
     clear ho4 hg4 hat4 c0 c1 c2 cf
     obtain ⟨c0,c1,c2,cf⟩:=store_cells (HK4.o.1.trans HS.o.row)))
 clear c0 c1 c2 cf
 go_wp2_with fail
 go_ret
 refine ⟨rfl,putTag (tagAt G (.slice (some ⟨bl4,0,none⟩) (gs.length+1) cp4) s) w.heap.size (s+1+ls.length),?_⟩
 have hat:=HAT.o
 have hat':(Value.slice (some ⟨bl4,0,none⟩) (gs.length+1) cp4).ownBlock=(Value.slice a0 gs.length cap0).ownBlock∨(Value.slice (some ⟨bl4,0,none⟩) (gs.length+1) cp4).ownBlock=some (w.heap.size+2):=by simpa using hat
 have htag: ∀k,k<w.heap.size→putTag (tagAt G (.slice (some ⟨bl4,0,none⟩) (gs.length+1) cp4) s) w.heap.size (s+1+ls.length) k=G k:=fun k hk=>by
  rw [putTag_ne (by omega),tagAt_old HS.o.ltag hat' k (by omega)]
 have hvb: ∀b,(Value.slice (some ⟨bl4,0,none⟩) (gs.length+1) cp4).ownBlock=some b→b<w.heap.size∨b=w.heap.size+2:=fun b hb=>by
  rcases hat' with e | e
  ·rw [e] at hb;exact .inl (HS.o.lines.lt b hb).2
  ·rw [e] at hb;cases hb;exact .inr rfl
 have hvp: ∀b,(Value.slice (some ⟨bl4,0,none⟩) (gs.length+1) cp4).ownBlock=some b→b≠p:=fun b hb e=>by
  subst e
  rcases hat' with e | e
  ·rw [e] at hb;exact HPR.o hb.symm
  ·rw [e] at hb;cases hb;have:=HPL.o;omega
 have hstep:Step G (putTag (tagAt G (.slice (some ⟨bl4,0,none⟩) (gs.length+1) cp4) s) w.heap.size (s+1+ls.length)) (fun t=>t=s) w (w4.setCell ⟨p,2,none⟩ (.slice (some ⟨bl4,0,none⟩) (gs.length+1) cp4)):=⟨HK4.o.2.1.setCell _ HS.o.tag,htag⟩
 refine ⟨⟨(.slice (some ⟨bl4,0,none⟩) (gs.length+1) cp4),gs++[w.heap.size],heap_setCell_same w4 p 2 _ _ (.slice (some ⟨bl4,0,none⟩) (gs.length+1) cp4) (HK4.o.1.trans HS.o.row),(htag p HPL.o).trans HS.o.tag,?_,fun b hb=> ?_,by simp [HS.o.len],fun i hi=> ?_⟩,⟨fun k hk=> ?_,fun k hk=> ?_,?_⟩,hstep,fun q=> ?_⟩
 ·have h:=HO4.o
  rw [show ptrV gs++[Value.pointer (some ⟨w.heap.size,0,none⟩)]=(gs++[w.heap.size]).map (fun g=>Value.pointer (some ⟨g,0,none⟩)) by simp [ptrV]] at h
  rw [List.length_append,List.length_singleton]
  exact ownsRow_keepM h (Chg.setCell1 (M:=fun k _=>k=p) _ _ _ _ rfl) (fun g hg i e=>hvp g hg e)
 ·rw [putTag_ne (by rcases hvb b hb with h | h<;> omega),tagAt_own hb]
 ·rw [List.length_append,List.length_singleton] at hi
  by_cases hlt:i<ls.length
  ·rw [List.getElem_append_left hlt,lD,List.getElem?_append_left (by rw [HS.o.len];exact hlt),← lD]
   exact (HS.o.line i hlt).step hstep (by omega) (by omega)
  ·obtain rfl:i=ls.length:=by omega
   rw [List.getElem_append_right (Nat.le_refl _),lD,List.getElem?_append_right (by rw [HS.o.len];exact Nat.le_refl _),HS.o.len]
   simp only [Nat.sub_self,List.getElem_cons_zero,List.getElem?_cons_zero,Option.getD_some]
   exact lin0_at ((Below.heap_setCell _ _ _ _ (by show w.heap.size≠p;have:=HPL.o;omega)).trans HK4.o.2.2) (putTag_same _ _ _)
 ·rw [htag k (by have:=HO.o.size;omega)]
  exact HO.o.lo k hk
 ·have hk':w4.heap.size≤k:=by simpa [World.setCell] using hk
  have h1:=HSZ4.o
  rw [putTag_ne (by omega)]
  unfold tagAt
  rw [if_neg (fun hb=>by have:=(HO4.o.lt k hb).2;omega)]
  exact HO.o.hi k (by omega)
 ·have h1:=HSZ4.o
  have h2:=HO.o.size
  have:(w4.setCell ⟨p,2,none⟩ (.slice (some ⟨bl4,0,none⟩) (gs.length+1) cp4)).heap.size=w4.heap.size:=by simp [World.setCell]
  omega
 ·unfold putTag tagAt
  split
  ·exact .inr (.inr rfl)
  ·split
   ·exact .inr (.inl rfl)
   ·exact .inl rfl
theorem storeNew_ok {G:Nat→Nat} {s N:Nat} {B H:Int} (hv:SV B H) (a:Option Addr) (c L:Nat) (ps:List ByteArray) (hL:ps.length=L) (hL1:1≤L) (hL2:L≤12) (h32: ∀x ∈ ps,x.size=32) (w:World) (hP:StrsAt w a ps) (hO:Own w G N) (h0:0<s) (hG: ∀q,G q<s):
    Calls Tryz.prog 57 #[.slice a L c,.agg #[.int .i64 B,.int .i64 H]] w fun e w'=> ∃p G',e= .returned (.tuple #[.pointer (some ⟨p,0,none⟩),.int .i64 0])∧StoreAt w' G' s p B H (ps.map lin0)∧Own w' G' N∧(∀q,q<w.heap.size→G' q=G q)∧(∀q,G' q<s+20)∧Below w.heap.size w w':=by
 have HP:=hid hP
 have HLE:=hid hL
 have HO:=hid hO
 have HG:=hid hG
 have H32:=hid h32
 have HV:=hid (fun w=>schemeValid_any B H w)
 rw [decide_eq_true hv] at HV
 have HWI:=hid (fun w=>within_any (L:Int) 1 12 w)
 rw [show inB (L:Int) 1 12=true by unfold inB;rw [decide_eq_true (by omega),decide_eq_true (by omega)];rfl] at HWI
 clear hP hL hO hG h32 hv
 go_enter Tryz.func57,Tryz.ntmps57
 go_upto_region 1 with fail
 refine wp_over (fun W=>Hid (W.heap[w.heap.size]? =some (.cells #[.int .i64 B,.int .i64 H] 23 (0,0)))∧Hid (Below w.heap.size w W)∧Hid (W.heap.size=w.heap.size+1)) ⟨heap_alloc_new _ _,(Below.refl _ _).alloc (Nat.le_refl _) _,by show _=_;simp⟩ ?_
 rintro W ⟨HGB,HB,HW⟩
 obtain ⟨M,hM⟩:=ex_eq w.heap.size
 rw [hM] at HGB HB HW ⊢
 have HM:=hid hM
 clear hM
 have HST:Hid (∀V V',Below M w V→Below V.heap.size V V'→Below M w V'):=hid (fun V V' h h'=>h.trans (h'.mono (by have:=h.size;have:=HM.o;omega)))
 have HC:Hid (∀V,Below (M+1) W V→V.cell? ⟨M,0,none⟩=some (.int .i64 B)∧V.cell? ⟨M,1,none⟩=some (.int .i64 H)):=hid (fun V h=>by
  have hg:=(h.block M (by omega)).trans HGB.o
  exact ⟨cr hg,cr hg⟩)
 obtain ⟨c0,c1⟩:=HC.o W (Below.refl _ _)
 go_upto_region 3 with (first
  | (go_at_call 142
     (refine (HWI.o _).mono ?_)
     rintro e w2 ⟨rfl,rfl⟩)
  | (go_at_call 76
     (refine (HV.o _).mono ?_)
     rintro e w3 ⟨rfl,h3⟩
     have H3:=hid (h3.mono (by have:=HW.o;omega:M+1≤W.heap.size))
     clear h3 c0 c1
     obtain ⟨c0,c1⟩:=HC.o _ H3.o))
 go_upto_region 4 with fail
 obtain ⟨P,hP3⟩:=ex_eq w3.heap.size
 have HWM:Hid (M≤P):=hid (by have:=H3.o.size;have:=HW.o;omega)
 refine wp_over (fun V=>Hid (∃Gk,StoreAt V Gk s P B H ((ps.take 0).map lin0)∧Own V Gk N∧(∀q,q<M→Gk q=G q)∧(∀q,Gk q=G q∨(s≤Gk q∧Gk q≤s+L)))∧Hid (Below M w V)) ⟨⟨putTag G P s,⟨.slice none 0 0,[],?_,putTag_same _ _ _,World.ownsRow_nil _ _ _ _,fun b h=>by simp [Value.ownBlock] at h,rfl,fun i h=>by simp at h⟩,⟨fun k hk=> ?_,fun k hk=> ?_,?_⟩,fun q hq=>putTag_ne (by have:=HWM.o;omega),fun q=> ?_⟩,?_⟩ ?_
 ·rw [← hP3]
  exact heap_alloc_new _ _
 ·rw [putTag_ne (by have:=HWM.o;have:=HO.o.size;have:=HM.o;omega)]
  exact HO.o.lo k hk
 ·have hk':P+1≤k:=by rw [← hP3];simpa using hk
  rw [putTag_ne (by omega)]
  exact HO.o.hi k (by have:=HWM.o;have:=HM.o;omega)
 ·have h1:(w3.alloc (.cells #[.int .i64 B,.int .i64 H,.slice none 0 0] 217)).heap.size=P+1:=by rw [← hP3];simp
  rw [h1]
  have:=HWM.o;have:=HO.o.size;have:=HM.o;omega
 ·unfold putTag
  split
  ·exact .inr ⟨Nat.le_refl _,Nat.le_add_right _ _⟩
  ·exact .inl rfl
 ·exact (HB.o.trans (H3.o.mono (Nat.le_succ M))).alloc (by rw [hP3];exact HWM.o) _
 rintro V4 ⟨HX4,HB4⟩
 rw [hP3]
 clear hP3 c0 c1
 go_upto_region 5 with fail
 go_loopw [24] (fun z wr=> ∃k:Nat,k≤L∧z= .int .i64 (k:Int)∧Hid (∃Gk,StoreAt wr Gk s P B H ((ps.take k).map lin0)∧Own wr Gk N∧(∀q,q<M→Gk q=G q)∧(∀q,Gk q=G q∨(s≤Gk q∧Gk q≤s+L)))∧Hid (Below M w wr)) (fun z _=>L - (intOf z).toNat)
 case atStart=>exact ⟨0,by omega,rfl,HX4,HB4⟩
 case round=>
  obtain ⟨k,hk,rfl,HX,HR⟩:=hrel
  by_cases hlt:k<L
  ·have hki:(k:Int)<(L:Int):=by omega
   have HKL:Hid (k<ps.length):=hid (by rw [HLE.o];exact hlt)
   obtain ⟨b0,o0,rfl,hps⟩: ∃b o,a=some ⟨b,o,none⟩∧ ∀i,i<ps.length→wr.cell? ⟨b,o+i,none⟩=some (.string (ps.getD i ByteArray.empty)):=by
    rcases HP.o.later (by rw [HM.o];exact HR.o) with h | h
    ·have:=HLE.o;rw [h] at this;simp at this;omega
    ·exact h
   have hck:=hps k HKL.o
   have HPE:Hid (ps.take (k+1)=ps.take k++[ps.getD k ByteArray.empty]):=hid (by rw [List.take_add_one,lE HKL.o,lD,lE HKL.o];rfl)
   have HZ:Hid ((ps.getD k ByteArray.empty).size=32):=hid (H32.o _ (getD_mem _ k _ HKL.o))
   obtain ⟨q,hq⟩:=ex_eq (ps.getD k ByteArray.empty)
   rw [hq] at hck HPE HZ
   clear hq hps
   obtain ⟨Gk,h1,h2,h3,h4⟩:=HX.o
   have HAD:=hid (admit_ok q HZ.o (by rw [List.length_map,List.length_take];omega) wr h1 h2 h0)
   have HG3:=hid h3
   have HG4:=hid h4
   clear h1 h2 h3 h4
   go_wp2_with (first
    | (go_at_call 143
       (refine HAD.o.mono ?_)
       rintro e w5 ⟨G5,rfl,hs5,ho5,hst5,hg5⟩
       have HS5:=hid hs5
       have HO5:=hid ho5
       have HST5:=hid hst5
       have HG5:=hid hg5
       clear hs5 ho5 hst5 hg5 hck))
   go_roundw
   case rel=>
    have hb5:Below M wr w5:=HST5.o.chg.below (by have:=HR.o.size;have:=HM.o;omega) (fun q i hq hm=>by rw [HG3.o q hq] at hm;have:=HG.o q;omega)
    refine ⟨k+1,hlt,by go_num,⟨G5,by rw [HPE.o,List.map_append];exact HS5.o,HO5.o,fun q hq=>(HST5.o.tag q (by have:=HR.o.size;have:=HM.o;omega)).trans (HG3.o q hq),fun q=> ?_⟩,hid (HR.o.trans hb5)⟩
    rcases HG5.o q with h | h | h
    ·rw [h];exact HG4.o q
    ·exact .inr (by omega)
    ·rw [List.length_map,List.length_take] at h
     exact .inr (by omega)
   case measure=>simp [intOf];omega
  ·have hki: ¬(k:Int)<(L:Int):=by omega
   have hke:k=L:=by omega
   subst hke
   go_wp2_with fail
   go_ret2
   obtain ⟨Gk,h1,h2,h3,h4⟩:=HX.o
   refine ⟨P,rfl,Gk,by rw [List.take_of_length_le (by rw [HLE.o];exact Nat.le_refl _)] at h1;exact h1,h2,by rw [HM.o];exact h3,fun q=> ?_,by rw [HM.o];exact HR.o⟩
   rcases h4 q with h | h
   ·rw [h];have:=HG.o q;omega
   ·omega
theorem made_ints (n:Nat):(madeCells #[.int .i64 0] n).toList=natV (List.replicate n 0):=by
 apply List.ext_getElem?
 intro i
 by_cases hi:i<n
 ·simp [madeCells,natV,hi,Nat.mod_one]
 ·rw [List.getElem?_eq_none (by simp [size_madeCells];omega),List.getElem?_eq_none (by simp [natV];omega)]
theorem ints_made (w:World) (n:Nat) (hn:n≤maxLen):(w.alloc (.cells (madeCells #[.int .i64 0] n) 3)).ownsRow w.heap.size 3 1 (.slice (some ⟨w.heap.size,0,none⟩) n n) n (natV (List.replicate n 0)):=
 ⟨by simp [natV],.inr ⟨w.heap.size,n,_,rfl,Nat.le_refl _,heap_alloc_new _ _,Nat.le_refl _,hn,by rw [size_madeCells,Nat.mul_one],by rw [made_ints,List.take_of_length_le (by simp [natV])]⟩⟩
theorem natV_set (zs:List Nat) (k z:Nat):natV (zs.set k z)=(natV zs).set k (.int .i64 (z:Int)):=by simp [natV,List.map_set]
theorem take_next (zs:List Nat) (L k:Nat) (hl:zs.length=L) (hk:k<L):(zs.take k++List.replicate (L - k) 0).set k (zs.getD k 0)=zs.take (k+1)++List.replicate (L - (k+1)) 0:=by
 rw [setNext (zs.take k) L k _ 0 (by rw [List.length_take];omega) hk,List.take_add_one,lE (by omega),lD,lE (by omega)]
 rfl
def vecOf (ls:List Lin):List Nat:=ls.map Lin.sealed'
theorem line_at {w:World} {G:Nat→Nat} {s p:Nat} {B H:Int} {ls:List Lin} {vr:Value} {gs:List Nat} (h:StoreR w G s p B H ls vr gs) (k:Nat) (hk:k<ls.length): ∃vl vs ss x f0 f1 f2 f3 f4 f5 f6 f7 f8 f9 f10 f11 f12 f13 f14,LineR w G (s+1+k) (gs.getD k 0) ls[k] vl vs ss x f0 f1 f2 f3 f4 f5 f6 f7 f8 f9 f10 f11 f12 f13 f14:=h.line k hk
theorem vector_any {G:Nat→Nat} {s p:Nat} {B H:Int} {ls:List Lin} (w:World) (h:StoreAt w G s p B H ls) (hl:ls.length≤1000):Calls Tryz.prog 65 #[.pointer (some ⟨p,0,none⟩)] w fun e w'=> ∃(bl L:Nat),e= .returned (.slice (some ⟨bl,0,none⟩) L L)∧ls.length=L∧w'.ownsRow w.heap.size 3 1 (.slice (some ⟨bl,0,none⟩) L L) L (natV (vecOf ls))∧w.heap.size≤bl∧Below w.heap.size w w':=by
 obtain ⟨vr,gs,h⟩:=h
 obtain ⟨_,a,cap,rfl,hca,hnil,hpt⟩:=ptrs_of_own h.lines
 obtain ⟨c0,c1,c2,cf⟩:=store_cells h.row
 have hlen:=h.len
 obtain ⟨L,hL⟩:=ex_eq gs.length
 rw [hL] at c2 hca
 have HS:=hid h
 have HLL:Hid (ls.length=L):=hid (by omega)
 have HGL:Hid (gs.length=L):=hid hL
 have HLV:Hid ((vecOf ls).length=L):=hid (by unfold vecOf;rw [List.length_map];omega)
 have HL3:Hid (L≤1000):=hid (by omega)
 have hL3:L≤1000:=HL3.o
 have hmk:=run_make_row' (P:= Tryz.prog) 81 3 (.int .i64 0) 8 Tryz.underlying81 Tryz.info3 rfl .i64 .i64 L (by omega) (by omega)
 clear h hpt hlen hL hl
 go_enter Tryz.func65,Tryz.ntmps65
 go_upto_region 2 with fail
 have HM0:=hid (ints_made w L (by have:=HL3.o;unfold maxLen;omega))
 refine wp_over (fun W=>Hid (W.ownsRow w.heap.size 3 1 (.slice (some ⟨w.heap.size,0,none⟩) L L) L (natV (List.replicate L 0)))∧Hid (Below w.heap.size w W)∧Hid (W.heap.size=w.heap.size+1)) ⟨HM0,(Below.refl _ _).alloc (Nat.le_refl _) _,by show _=_;simp⟩ ?_
 clear hmk HM0 c0 c1 c2 cf
 rintro W ⟨HR,HB,HW⟩
 obtain ⟨M,hM⟩:=ex_eq w.heap.size
 rw [hM] at HR HB HW ⊢
 have HM:=hid hM
 clear hM
 have HSV:Hid (∀V,Below M w V→StoreR V G s p B H ls (.slice a L cap) gs):=hid (fun V hV=>by have h:=HS.o;rw [HGL.o] at h;exact h.later (by rw [HM.o];exact hV))
 obtain ⟨c0,c1,c2,cf⟩:=store_cells (HSV.o _ HB.o).row
 go_upto_region 3 with fail
 go_loopw [17] (fun z wr=> ∃k:Nat,k≤L∧z= .int .i64 (k:Int)∧Hid (wr.ownsRow M 3 1 (.slice (some ⟨M,0,none⟩) L L) L (natV ((vecOf ls).take k++List.replicate (L - k) 0)))∧Hid (Below M w wr)) (fun z _=>L - (intOf z).toNat)
 case atStart=>exact ⟨0,by omega,rfl,HR,HB⟩
 case round=>
  clear c0 c1 c2 cf
  obtain ⟨k,hk,rfl,HX,HRW⟩:=hrel
  by_cases hlt:k<L
  ·have hki:(k:Int)<(L:Int):=by omega
   have hsr:=HSV.o _ HRW.o
   have HKL:Hid (k<ls.length):=hid (by rw [HLL.o];exact hlt)
   obtain ⟨_,a',cap',he,_,_,hpt⟩:=ptrs_of_own hsr.lines
   injection he with e1 e2 e3
   subst e1
   subst e3
   clear e2
   obtain ⟨b,rfl,hck⟩:=hpt k (by rw [HGL.o];exact hlt)
   obtain ⟨vl,vs,ss,x,f0,f1,f2,f3,f4,f5,f6,f7,f8,f9,f10,f11,f12,f13,f14,hln⟩:=line_at hsr k HKL.o
   obtain ⟨_,_,_,l3,_⟩:=line_cells hln.row
   have HZ:Hid ((ls[k]'HKL.o).sealed'=(vecOf ls).getD k 0):=hid (by unfold vecOf;rw [lD,List.getElem?_map,lE HKL.o];rfl)
   obtain ⟨g,hg⟩:=ex_eq (gs.getD k 0)
   rw [hg] at hck l3
   rw [HZ.o] at l3
   obtain ⟨z,hz⟩:=ex_eq ((vecOf ls).getD k 0)
   have HZE:=hid hz
   rw [hz] at l3
   obtain ⟨r0,rf⟩:=ownsRow_free HX.o k hlt (.int .i64 0)
   have HTN:=hid (take_next (vecOf ls) L k HLV.o hlt)
   rw [hz] at HTN
   clear hsr hpt hln hg hz
   go_upto_region 6 with fail
   have HX2:=hid (ownsRow_setC HX.o k hlt (.int .i64 (z:Int)))
   rw [← natV_set,HTN.o] at HX2
   refine wp_over (fun V=>Hid (V.ownsRow M 3 1 (.slice (some ⟨M,0,none⟩) L L) L (natV ((vecOf ls).take (k+1)++List.replicate (L - (k+1)) 0)))∧Hid (Below M w V)) ⟨HX2,HRW.o.setCell (p:=⟨M,k,none⟩) (Nat.le_refl _) _⟩ ?_
   rintro V ⟨HX3,HV⟩
   clear r0 rf hck l3 HX2
   go_wp2_with fail
   go_roundw
   case rel=>exact ⟨k+1,hlt,by go_num,HX3,HV⟩
   case measure=>simp [intOf];omega
  ·have hki: ¬(k:Int)<(L:Int):=by omega
   have hke:k=L:=by omega
   subst hke
   go_wp2_with fail
   go_ret
   refine ⟨M,_,rfl,HLL.o,?_,by rw [HM.o];exact Nat.le_refl _,by rw [HM.o];exact HRW.o⟩
   have h:=HX.o
   rw [List.take_of_length_le (by rw [HLV.o];exact Nat.le_refl _),Nat.sub_self,List.replicate_zero,List.append_nil] at h
   rw [HM.o]
   exact h
theorem log_any {G:Nat→Nat} {s p:Nat} {B H:Int} {ls:List Lin} (d:Nat) (hd:d<ls.length) (hm:ls[d].log.length≤1000000) (hbd: ∀e ∈ ls[d].log,e.body.length≤1000000000) (w:World) (h:StoreAt w G s p B H ls) (hl:ls.length≤1000):Calls Tryz.prog 63 #[.pointer (some ⟨p,0,none⟩),.int .i64 (d:Int)] w fun e w'=> ∃(bl L:Nat) (xs:List EV),e= .returned (.slice (some ⟨bl,0,none⟩) L L)∧ls[d].log.length=L∧xs.map EV.e=ls[d].log∧RowS EV.cells 92 w' bl L xs∧w.heap.size≤bl∧(∀x ∈ xs,NewE w' (w.heap.size+1) x)∧Below w.heap.size w w':=by
 have HHA:=hid (has_any (d:Int) w h hl)
 rw [decide_eq_true ⟨by omega,by omega⟩] at HHA
 obtain ⟨vr,gs,h⟩:=h
 obtain ⟨_,a,cap,rfl,hca,hnil,hpt⟩:=ptrs_of_own h.lines
 obtain ⟨c0,c1,c2,cf⟩:=store_cells h.row
 have hdg:d<gs.length:=by rw [h.len];exact hd
 obtain ⟨b,rfl,hck⟩:=hpt d hdg
 obtain ⟨vl,vs,ss,x,f0,f1,f2,f3,f4,f5,f6,f7,f8,f9,f10,f11,f12,f13,f14,hln⟩:=line_at h d hd
 obtain ⟨_,l1,_⟩:=line_cells hln.row
 obtain ⟨al,cl,rfl,_,_,_,hes,_⟩:=hln.log.ents
 obtain ⟨es,hee⟩:=ex_eq ls[d].log
 rw [hee] at hm hbd l1 hes ⊢
 have HCL:=hid (cloneLog_any al cl es.length es rfl hm hbd w hes)
 obtain ⟨L,hL⟩:=ex_eq es.length
 rw [hL] at HCL l1 ⊢
 obtain ⟨g,hg⟩:=ex_eq (gs.getD d 0)
 rw [hg] at hck l1
 have hdi:(d:Int)<(gs.length:Int):=by omega
 clear h hpt hln hee hes hm hbd hL hg hl hdg
 go_enter Tryz.func63,Tryz.ntmps63
 go_wp2_with (first
  | (go_at_call 154
     (refine HHA.o.mono ?_)
     rintro e w2 ⟨rfl,rfl⟩)
  | (go_at_call 146
     (refine HCL.o.mono ?_)
     rintro e w3 ⟨bl,xs,rfl,h1,h2,h3,h4,h5⟩
     have H1:=hid h1
     have H2:=hid h2
     have H3:=hid h3
     have H4:=hid h4
     have H5:=hid h5
     clear h1 h2 h3 h4 h5))
 go_ret
 exact ⟨bl,L,xs,rfl,rfl,H1.o,H2.o,H3.o,H4.o,H5.o⟩
theorem evs_app (l m:List EV):evs (l++m)=evs l++evs m:=sixes_app l m
theorem run_app_ents (w0:World) (ty:TypeId) (base:Nat) (v:Value) (L:Nat) (xs:List EV) (hown:w0.ownsRow base 92 6 v L (evs xs)) (hb:base≤w0.heap.size) (hL:L≤1000000)
    (ad:Addr) (m c:Nat) (ys:List EV) (hm:ys.length=m) (hm2:m≤1000000) (hn: ∀j u,(evs ys)[j]? =some u→w0.cell? (ad.add j)=some u) (h0:0<L+m):
    ∃bl cap w',(Builtin.append_ #[111, 111] ty #[v,.slice (some ad) m c]).run Tryz.prog w0= .ok (.slice (some ⟨bl,0,none⟩) (L+m) cap) w'∧w'.ownsRow base 92 6 (.slice (some ⟨bl,0,none⟩) (L+m) cap) (L+m) (evs (xs++ys))∧w0.grownBy w' v.ownBlock∧(some bl=v.ownBlock∨bl=w0.heap.size):=by
 obtain ⟨i0,hi,hz0,hz1,hz2⟩:=info_parts Tryz.infoEnt
 subst hm
 obtain ⟨v',w',hr,h2,h3,h4,h5⟩:=run_append_own_at (P:= Tryz.prog) w0 base 111 ty 92 i0 _ 6 72 Tryz.underlying111 hi hz0 hz1 hz2 rfl (by decide) v L (evs xs) hown ad ys.length c (evs ys) (evs_len ys) hn (evs_one ys) (by unfold maxLen;omega) (by omega) hb
 obtain ⟨bl,cap,rfl⟩:=own_some h2 h0
 refine ⟨bl,cap,w',hr,by rw [evs_app];exact h2,h3,?_⟩
 rcases h5 with h | h
 ·exact .inl h
 ·injection h with h
  exact .inr h
section
variable {ops:Array Oper} {rest:List Oper} {o:Oper} {a:Act} {Q:Exit→Act→World→Prop} {K:Act→World→Prop}
theorem wp_app_ents {w0:World} (s x:Operand) (ho:o.op= .call { callee:= .builtin .append,args:= #[s,x],argTypes:= #[111, 111] })
    (base:Nat) (v:Value) (L:Nat) (xs:List EV) (hs:a.eval s=v) (hown:w0.ownsRow base 92 6 v L (evs xs)) (hb:base≤w0.heap.size) (hL:L≤1000000)
    (ad:Addr) (m c:Nat) (ys:List EV) (hx:a.eval x= .slice (some ad) m c) (hm:ys.length=m) (hm2:m≤1000000) (hn: ∀j u,(evs ys)[j]? =some u→w0.cell? (ad.add j)=some u) (h0:0<L+m)
    (h: ∀bl cap w',w'.ownsRow base 92 6 (.slice (some ⟨bl,0,none⟩) (L+m) cap) (L+m) (evs (xs++ys))→w0.grownBy w' v.ownBlock→(some bl=v.ownBlock∨bl=w0.heap.size)→K (a.put o.dst (.slice (some ⟨bl,0,none⟩) (L+m) cap)) w'):o.wp Tryz.prog a w0 K Q:=by
 obtain ⟨bl,cap,w',hr,h2,h3,h4⟩:=run_app_ents w0 o.type base v L xs hown hb hL ad m c ys hm hm2 hn h0
 unfold Oper.wp execOp
 simp only [ho,resolve,invoke,builtin,Sem.run_bind,Sem.run_pure,Result.andThen_ok,List.map_toArray,List.map_cons,List.map_nil,hs,hx,hr]
 exact h bl cap w' h2 h3 h4
theorem app_ents {w0:World} (hgd:o.guard=none) (s x:Operand) (ho:o.op= .call { callee:= .builtin .append,args:= #[s,x],argTypes:= #[111, 111] })
    (base:Nat) (v:Value) (L:Nat) (xs:List EV) (hs:a.eval s=v) (hown:w0.ownsRow base 92 6 v L (evs xs)) (hb:base≤w0.heap.size) (hL:L≤1000000)
    (ad:Addr) (m c:Nat) (ys:List EV) (hx:a.eval x= .slice (some ad) m c) (hm:ys.length=m) (hm2:m≤1000000) (hn: ∀j u,(evs ys)[j]? =some u→w0.cell? (ad.add j)=some u) (h0:0<L+m)
    (h: ∀bl cap w',w'.ownsRow base 92 6 (.slice (some ⟨bl,0,none⟩) (L+m) cap) (L+m) (evs (xs++ys))→w0.grownBy w' v.ownBlock→(some bl=v.ownBlock∨bl=w0.heap.size)→wpList Tryz.prog ops Q rest (a.put o.dst (.slice (some ⟨bl,0,none⟩) (L+m) cap)) w'):wpList Tryz.prog ops Q (o::rest) a w0:=by
 refine wpList_plain hgd fun K hK=> ?_
 exact wp_app_ents s x ho base v L xs hs hown hb hL ad m c ys hx hm hm2 hn h0 fun bl cap w' h1 h2 h3=>hK _ _ (h bl cap w' h1 h2 h3)
theorem app_strAt {w0:World} (hgd:o.guard=none) (s x:Operand) (ho:o.op= .call { callee:= .builtin .append,args:= #[s,x],argTypes:= #[43, 43] })
    (base:Nat) (v:Value) (L:Nat) (cur:List ByteArray) (hs:a.eval s=v) (hown:w0.ownsRow base 9 1 v L (strV cur)) (hb:base≤w0.heap.size) (hL:L≤1000000)
    (b:ByteArray) (c:Nat) (hx:a.eval x= .slice (some ⟨w0.heap.size,0,none⟩) 1 c)
    (h: ∀bl cap w',w'.ownsRow base 9 1 (.slice (some ⟨bl,0,none⟩) (L+1) cap) (L+1) (strV (cur++[b]))→(w0.alloc (.cells #[.string b] 9)).grownBy w' v.ownBlock→(some bl=v.ownBlock∨bl=w0.heap.size+1)→wpList Tryz.prog ops Q rest (a.put o.dst (.slice (some ⟨bl,0,none⟩) (L+1) cap)) w'):wpList Tryz.prog ops Q (o::rest) a (w0.alloc (.cells #[.string b] 9)):=by
 obtain ⟨i0,hi,hz0,hz1,hz2⟩:=info_parts Tryz.info9
 refine wpList_append_own_at _ hgd s x 43 ho base 9 i0 (.string ByteArray.empty) 1 16 Tryz.underlying43 hi hz0 hz1 hz2 rfl (by decide) v L (strV cur) hs (hown.alloc _) ⟨w0.heap.size,0,none⟩ 1 c [.string b] hx rfl (cell_one_new _ _ _) (by simp [Value.oneCell']) (by unfold maxLen;omega) (by omega) (by simp;omega) ?_
 intro v' w4 hown4 hgr4 _ hat
 obtain ⟨bl,cap,rfl⟩:=own_some hown4 (Nat.succ_pos _)
 refine h bl cap w4 (by rw [strV_app];exact hown4) hgr4 ?_
 rcases hat with h | h
 ·exact .inl h
 ·injection h with h
  exact .inr (by simpa using h)
end
theorem ent_new {w:World} (y:EV) {x0 x1 x2 x3 x4 x5:Value} (hy:y.cells=[x0,x1,x2,x3,x4,x5]): ∀j u,(evs [y])[j]? =some u→(w.alloc (.cells #[x0,x1,x2,x3,x4,x5] 92)).cell? ((⟨w.heap.size,0,none⟩:Addr).add j)=some u:=fun j u hu=>by
 rw [add_none]
 have:evs [y]=[x0,x1,x2,x3,x4,x5]:=by unfold evs sixes sixes;rw [hy];rfl
 rw [this] at hu
 exact cells_new_at _ _ _ j u hu
theorem RowS.src {w:World} {bl cap:Nat} {ys:List EV} (h:RowS EV.cells 92 w bl cap ys): ∀j u,(evs ys)[j]? =some u→w.cell? ((⟨bl,0,none⟩:Addr).add j)=some u:=fun j u hu=>by
 have hj:j<ys.length*6:=by
  have:=(List.getElem?_eq_some_iff.1 hu).1
  rwa [evs_len] at this
 have h1:=sixes_get (f:=EV.cells) (fun _=>rfl) ys (j/6) (by omega) (j % 6) (Nat.mod_lt _ (by decide))
 have h2:=(h.cells (fun _=>rfl) (j/6) (by omega)).1 (j % 6) (Nat.mod_lt _ (by decide))
 rw [show j/6*6+j % 6=j by omega] at h1 h2
 rw [add_none,Nat.zero_add,h2,← h1]
 exact hu
theorem bytes_ne {w w':World} {a:Option Addr} {bs:List Nat} {M:Nat→Nat→Prop} (h:BytesAt w a bs) (hc:Chg M w w') (hM:bs≠[]→ ∀ad,a=some ad→ ∀i,¬M ad.block i):BytesAt w' a bs:=by
 by_cases hz:bs=[]
 ·exact ⟨.inl hz,h.2⟩
 ·exact bytesAt_chg h hc (hM hz)
theorem Laid.low {w w':World} {N:Nat} (h:Laid w) (hb:Below N w w') (hN:3≤N):Laid w':=
 ⟨fun t ht=>(hb.cell (p:=⟨2,t,none⟩) (Nat.lt_of_lt_of_le (by show 2 <3;decide) hN)).trans (h.kon t ht),fun i hi=>(hb.cell (p:=⟨0,0+i,none⟩) (Nat.lt_of_lt_of_le (by show 0 <3;decide) hN)).trans (h.init i hi),(hb.cell (p:=⟨1,0,none⟩) (Nat.lt_of_lt_of_le (by decide) hN)).trans h.pad0,(hb.cell (p:=⟨1,1,none⟩) (Nat.lt_of_lt_of_le (by decide) hN)).trans h.pad1⟩
def prevOf (es:List Ent):ByteArray:=match es.getLast? with
 | none=>ByteArray.empty
 | some e=>strB (sumE e)
theorem nb_prevOf {es:List Ent} (h:es≠[]):nb (prevOf es)=sumE (es.getLast h):=by
 unfold prevOf
 rw [List.getLast?_eq_some_getLast h]
 exact nb_strB (sumE_lt _)
def newE (l:Lin) (d kd dy:Nat) (bs:List Nat):Ent:=⟨(d:Int),((l.log.length:Nat):Int)+1,(kd:Int),(dy:Int),bs,prevOf l.log⟩
def appL (l:Lin) (d kd dy:Nat) (bs:List Nat):Lin:={ l with log:=l.log++[newE l d kd dy bs] }
def TagS (s d:Nat):Nat→Prop:=fun q=>q=s+1+d∨q=s+50
theorem TagS.ne0 {s d:Nat} (h:0<s): ¬TagS s d 0:=fun e=>by unfold TagS at e;omega
theorem append_ok {G:Nat→Nat} {s p N0:Nat} {B H:Int} {ls:List Lin} (d kd dy:Nat) (hd:d<ls.length) (hd11:d≤11) (hk:1≤kd∧kd≤9) (hy:dy≤999999) (a:Option Addr) (n c:Nat) (bs:List Nat) (hn:bs.length=n) (hn2:n≤69632)
    (hday: ∀e,ls[d].log.getLast? =some e→e.day≤(dy:Int)) (hfull:ls[d].log.length<4096) (hl:ls.length≤12) (h0:0<s) (w:World) (hB:BytesAt w a bs) (h:StoreAt w G s p B H ls) (hO:Own w G N0) (hL:Laid w):
    Calls Tryz.prog 139 #[.pointer (some ⟨p,0,none⟩),.int .i64 (d:Int),.int .i64 (kd:Int),.int .i64 (dy:Int),.slice a n c] w fun e w'=> ∃(a9:Option Addr) (cp9:Nat) (G':Nat→Nat),e= .returned (.tuple #[.agg #[.int .i64 (d:Int),.int .i64 (((ls[d].log.length:Nat):Int)+1),.int .i64 (kd:Int),.int .i64 (dy:Int),.slice a9 n cp9,.string (prevOf ls[d].log)],.int .i64 0])∧
     StoreAt w' G' s p B H (ls.set d (appL ls[d] d kd dy bs))∧Own w' G' N0∧Step G G' (TagS s d) w w'∧(∀q,G' q=G q∨(s≤G' q∧G' q≤s+50))∧(a9=none→cp9=0)∧BytesAt w' a9 bs∧(∀ad,a9=some ad→w.heap.size≤ad.block∧G' ad.block=0):=by
 have HHA:=hid (has_any (d:Int) w h (by omega))
 rw [decide_eq_true ⟨by omega,by omega⟩] at HHA
 have HWK:=hid (fun w=>within_any (kd:Int) 1 9 w)
 rw [show inB (kd:Int) 1 9=true by unfold inB;rw [decide_eq_true (by omega),decide_eq_true (by omega)];rfl] at HWK
 have HWY:=hid (fun w=>within_any (dy:Int) 0 999999 w)
 rw [show inB (dy:Int) 0 999999=true by unfold inB;rw [decide_eq_true (by omega),decide_eq_true (by omega)];rfl] at HWY
 obtain ⟨vr,gs,h⟩:=h
 have HS:=hid h
 obtain ⟨_,a0,cap,rfl,hca,hnil,hpt⟩:=ptrs_of_own h.lines
 have hdg:d<gs.length:=by rw [h.len];exact hd
 obtain ⟨b,rfl,hck⟩:=hpt d hdg
 obtain ⟨vl,vs,ss,hx,f0,f1,f2,f3,f4,f5,f6,f7,f8,f9,f10,f11,f12,f13,f14,hln⟩:=line_at h d hd
 obtain ⟨l,hll⟩: ∃l,l=ls[d]:=⟨_,rfl⟩
 rw [← hll] at hln
 rw [← hll] at hday hfull ⊢
 have HLN:=hid hln
 obtain ⟨xs,hx1,hx2,hx3,hx4⟩:=hln.log
 obtain ⟨hnx,al,cl,rfl,hcl,hcm,hnl,hnc⟩:=sixes_cells (fun _=>rfl) hx2
 clear hnx hnc
 obtain ⟨sl,cs,rfl,hsl,hcs,hSS,hns,_⟩:=strs_of_own hln.sums
 obtain ⟨L,hLe⟩:=ex_eq l.log.length
 rw [hLe] at hfull hcl hsl
 have HLE:=hid hLe
 have hL0:L<4096:=hfull
 have HXE:=hid hx1
 have HXO:Hid (w.ownsRow 0 92 6 (.slice al L cl) L (evs xs)):=hid (by rw [← hLe];exact hx2)
 have HXT:Hid (∀b,(Value.slice al L cl).ownBlock=some b→G b=s+1+d):=hid (by rw [← hLe];exact hx3)
 have HXK:=hid hx4
 have HSE:=hid hln.sumE
 have HSO:Hid (w.ownsRow 0 9 1 (.slice sl L cs) L (strV ss)):=hid (by rw [← hLe];exact hln.sums)
 have HST0:Hid (∀b,(Value.slice sl L cs).ownBlock=some b→G b=s+1+d):=hid (by rw [← hLe];exact hln.stag)
 have HSL:=hid hsl
 have HRW:Hid (w.heap[gs.getD d 0]? =some (.cells (lineRow l.pub (.slice al L cl) (.slice sl L cs) (l.sealed':Int) hx l.fork.isSome f0 f1 f2 f3 f4 f5 f6 f7 f8 f9 f10 f11 f12 f13 f14) 222 (0,0))):=hid (by rw [← hLe];exact hln.row)
 obtain ⟨g,hg⟩:=ex_eq (gs.getD d 0)
 have HGE:=hid hg
 rw [hg] at hck HRW
 have HGT:Hid (G g=s+1+d):=hid (by rw [← hg];exact hln.tag)
 have HC2:Hid (w.cell? ⟨p,2,none⟩=some (.slice (some ⟨b,0,none⟩) gs.length cap)):=hid (store_cells h.row).2.2.1
 have HCK:=hid hck
 have hdi:(d:Int)<(gs.length:Int):=by omega
 have HPV:Hid (∀P0,nb P0=nb (prevOf l.log)→P0=prevOf l.log):=hid (fun P0 h=>nb_inj h)
 have HVE:Hid (∀P0,nb P0=nb (prevOf l.log)→ValidE ⟨(d:Int),((L+1:Nat):Int),(kd:Int),(dy:Int),bs,P0⟩):=hid (fun P0 hP=>by
  refine ⟨by simp only;omega,by simp only;omega,by simp only;omega,by simp only;omega,by simp only;omega,by simp only;omega,by simp only;omega,by simp only;omega,by simp only;omega,?_⟩
  have hz:=congrArg List.length hP
  rw [nb_length,nb_length] at hz
  simp only
  rw [hz]
  by_cases hz0:L=0
  ·have hnl:l.log=[]:=List.eq_nil_of_length_eq_zero (by omega)
   rw [if_pos (by omega),hnl]
   rfl
  ·have hnn:l.log≠[]:=fun e=>hz0 (by rw [← hLe,e];rfl)
   rw [if_neg (by omega),← nb_length,nb_prevOf hnn]
   exact sumE_len _)
 have HSUM:Hid (∀a2 cp2 P0,nb P0=nb (prevOf l.log)→(a2=none→cp2=0)→ ∀V,BytesAt V a2 bs→Laid V→Calls Tryz.prog 62 #[.agg #[.int .i64 (d:Int),.int .i64 ((L:Int)+1),.int .i64 (kd:Int),.int .i64 (dy:Int),.slice a2 n cp2,.string P0]] V fun e w'=> ∃u:ByteArray,e= .returned (.tuple #[.string u,.int .i64 0])∧nb u=sumE (newE l d kd dy bs)∧u.size=32∧Below V.heap.size V w'):=hid (fun a2 cp2 P0 hP hnil V hBV hLV=>by
  have e0:((L+1:Nat):Int)=(L:Int)+1:=Int.natCast_add L 1
  have e1:(⟨(d:Int),((L+1:Nat):Int),(kd:Int),(dy:Int),bs,P0⟩:Ent)=newE l d kd dy bs:=by
   unfold newE
   rw [hLe,HPV.o P0 hP,e0]
  have h1:=sum_ok d (L+1) kd dy a2 n cp2 P0 bs hn hnil (HVE.o P0 hP) (sumE (newE l d kd dy bs)) (by rw [e1]) V hBV hLV
  rw [e0] at h1
  exact h1)
 have HYC:Hid (∀(a2:Option Addr) (cp2:Nat),(⟨newE l d kd dy bs,a2,cp2⟩:EV).cells=[.int .i64 (d:Int),.int .i64 ((L:Int)+1),.int .i64 (kd:Int),.int .i64 (dy:Int),.slice a2 n cp2,.string (prevOf l.log)]):=hid (fun a2 cp2=>by
  unfold EV.cells newE
  simp only
  rw [hLe,hn])
 have HBY:=hid hB
 have HNL:=hid hn
 have HO:=hid hO
 have HL:=hid hL
 have HTG:=hid h.tag
 have hnb:n≤69632:=hn2
 have hng: ¬(69632:Int)<(n:Int):=by omega
 have hnf: ¬(4096:Int)≤(L:Int):=by omega
 have hw1:wrap64 ((L:Int)+1)=(L:Int)+1:=IntWalk.wrap64_in _ ⟨by omega,by omega⟩
 have HDY:Hid (∀e,l.log.getLast? =some e→e.day≤(dy:Int)):=hid hday
 have HD:Hid (d<ls.length∧ls.length≤12∧0<s):=hid ⟨hd,hl,h0⟩
 have HCE:Hid (∀V,Below w.heap.size w V→V.cell? ⟨p,2,none⟩=some (.slice (some ⟨b,0,none⟩) gs.length cap)∧V.cell? ⟨b,d,none⟩=some (.pointer (some ⟨g,0,none⟩))∧V.cell? ⟨g,1,none⟩=some (.slice al L cl)∧V.cell? ⟨g,2,none⟩=some (.slice sl L cs)):=hid (fun V hV=>by
  have k: ∀{q j:Nat} {y:Value},w.cell? ⟨q,j,none⟩=some y→V.cell? ⟨q,j,none⟩=some y:=fun h=>(hV.cell (World.block_lt_of_cell? w _ h)).trans h
  exact ⟨k HC2.o,k HCK.o,k (line_cells HRW.o).2.1,k (line_cells HRW.o).2.2.1⟩)
 clear h hpt hln hx1 hx2 hx3 hx4 hLe hfull hck hg hll hday hdg hd hl hB hn hO hL hn2 hcl hcm hnl hsl hcs hSS hns hk hy hca hnil h0
 obtain ⟨PV,hPV⟩:=ex_eq (prevOf l.log)
 have HPE:=hid hPV
 rw [hPV] at HPV HVE HYC ⊢
 clear hPV
 go_enter Tryz.func139,Tryz.ntmps139
 go_upto_region 1 with fail
 refine wp_over (fun W=>Hid (W.heap[w.heap.size]? =some (.cells #[.int .i64 0,.int .i64 0,.int .i64 0,.int .i64 0,.slice none 0 0,.string ByteArray.empty] 92 (0,0)))∧Hid (Below w.heap.size w W)∧Hid (W.heap.size=w.heap.size+1)) ⟨heap_alloc_new _ _,(Below.refl _ _).alloc (Nat.le_refl _) _,by show _=_;simp⟩ ?_
 rintro W ⟨HZN,HB1,HW1⟩
 obtain ⟨N,hN⟩:=ex_eq w.heap.size
 have HN:=hid hN
 rw [hN] at HZN HB1 HW1 HCE ⊢
 clear hN
 have HHB:Hid (∀V,Below N w V→Calls Tryz.prog 154 #[.pointer (some ⟨p,0,none⟩),.int .i64 (d:Int)] V fun e w'=>e= .returned (.bool true)∧V=w'):=hid (fun V hV=>by
  have h:=has_any (d:Int) V ⟨_,_,HS.o.later (by rw [HN.o];exact hV)⟩ (by have:=HD.o;omega)
  rwa [decide_eq_true ⟨by omega,by have:=HD.o;omega⟩] at h)
 have HSF:Hid (∀(X:Nat) (a2:Option Addr) (cp2:Nat) (U:World),U.heap[g]? =some (.cells (lineRow l.pub (.slice al L cl) (.slice sl L cs) (l.sealed':Int) hx l.fork.isSome f0 f1 f2 f3 f4 f5 f6 f7 f8 f9 f10 f11 f12 f13 f14) 222 (0,0))→U.heap[X]? =some (.cells #[.int .i64 (d:Int),.int .i64 ((L:Int)+1),.int .i64 (kd:Int),.int .i64 (dy:Int),.slice a2 n cp2,.string PV] 92 (0,0))→(U.cell? ⟨g,1,none⟩=some (.slice al L cl)∧U.cell? ⟨X,0,none⟩=some (.int .i64 (d:Int))∧U.cell? ⟨X,1,none⟩=some (.int .i64 ((L:Int)+1))∧U.cell? ⟨X,2,none⟩=some (.int .i64 (kd:Int))∧U.cell? ⟨X,3,none⟩=some (.int .i64 (dy:Int))∧U.cell? ⟨X,4,none⟩=some (.slice a2 n cp2)∧U.cell? ⟨X,5,none⟩=some (.string PV)∧ ∀i,U.frozen? ⟨g,i,none⟩=false)):=hid (fun X a2 cp2 U h1 h2=>by
  obtain ⟨_,k1,_,_,_,_,kf⟩:=line_cells h1
  obtain ⟨e0,e1,e2,e3,e4,e5⟩:=row6 h2
  exact ⟨k1,e0,e1,e2,e3,e4,e5,kf⟩)
 obtain ⟨c2,ck,l1,l2⟩:=HCE.o _ HB1.o
 go_upto_region 7 with (first
  | (go_at_call 154
     (refine (HHB.o _ HB1.o).mono ?_)
     rintro e w2 ⟨rfl,rfl⟩)
  | (go_at_call 142
     (with_reducible refine (HWK.o _).mono ?_)
     rintro e w2 ⟨rfl,rfl⟩)
  | (go_at_call 142
     (with_reducible refine (HWY.o _).mono ?_)
     rintro e w2 ⟨rfl,rfl⟩))
 go_upto_region 8 with (first
  | (go_at_call 217
     (refine (cloneBytes_any a n c bs HNL.o (by omega) _ (HBY.o.later (by rw [HN.o];exact HB1.o))).mono ?_)
     rintro e w2 ⟨a2,cp2,rfl,hn2,hb2,hg2,h2⟩
     have HN2:=hid hn2
     have HBB:=hid hb2
     have HG2:Hid (∀ad,a2=some ad→N+1≤ad.block):=hid (fun ad e=>by have:=hg2 ad e;have:=HW1.o;omega)
     have H2:=hid h2
     clear hn2 hb2 hg2 h2 c2 ck l1 l2))
 refine wp_over (fun V=>Hid (V.heap[w2.heap.size]? =some (.cells #[.int .i64 (d:Int),.int .i64 ((L:Int)+1),.int .i64 (kd:Int),.int .i64 (dy:Int),.slice a2 n cp2,.string ByteArray.empty] 92 (0,0)))∧Hid (Below w2.heap.size w2 V)∧Hid (V.heap.size=w2.heap.size+1)) ⟨heap_alloc_new _ _,(Below.refl _ w2).alloc (Nat.le_refl _) _,by show _=_;simp⟩ ?_
 rintro V ⟨HX,HBV0,HVS⟩
 have HXN:Hid (N+1≤w2.heap.size):=hid (by have:=H2.o.size;have:=HW1.o;omega)
 have HBV:Hid (Below N w V):=hid (HB1.o.trans ((H2.o.trans (HBV0.o.mono H2.o.size)).mono (by have:=HW1.o;omega)))
 have HZV:Hid (V.heap[N]? =some (.cells #[.int .i64 0,.int .i64 0,.int .i64 0,.int .i64 0,.slice none 0 0,.string ByteArray.empty] 92 (0,0))):=hid ((HBV0.o.block N (by have:=HXN.o;omega)).trans ((H2.o.block N (by have:=HW1.o;omega)).trans HZN.o))
 have HBYV:=hid (HBB.o.later HBV0.o)
 have HA2:Hid (bs≠[]→ ∀ad,a2=some ad→N+1≤ad.block∧ad.block<w2.heap.size):=hid (fun hne ad e=>⟨HG2.o ad e,HBB.o.blk ad e hne⟩)
 obtain ⟨X,hX⟩:=ex_eq w2.heap.size
 rw [hX] at HX HVS HXN HA2 ⊢
 clear hX HBV0 HZN HB1 HW1 HBB HG2 H2 HBY
 have fX:=cells6 HX.o
 obtain ⟨x0,x1,x2,x3,x4,x5⟩:=row6 HX.o
 by_cases hz:L=0
 focus
  have hgz: ¬(0:Int)<(L:Int):=by omega
  have HPZ:Hid (PV=ByteArray.empty):=hid (by
   rw [← HPE.o]
   unfold prevOf
   rw [show l.log=[] from List.eq_nil_of_length_eq_zero (by rw [HLE.o];exact hz)]
   rfl)
  go_upto_region 12 with fail
  refine wp_over (fun V=>Hid (V.heap[X]? =some (.cells #[.int .i64 (d:Int),.int .i64 ((L:Int)+1),.int .i64 (kd:Int),.int .i64 (dy:Int),.slice a2 n cp2,.string PV] 92 (0,0)))∧Hid (Below N w V)∧Hid (V.heap[N]? =some (.cells #[.int .i64 0,.int .i64 0,.int .i64 0,.int .i64 0,.slice none 0 0,.string ByteArray.empty] 92 (0,0)))∧Hid (BytesAt V a2 bs)∧Hid (X+1≤V.heap.size)) ⟨by rw [HPZ.o];exact HX,HBV,HZV,HBYV,hid (by rw [HVS.o];exact Nat.le_refl _)⟩ ?_
  clear fX x0 x1 x2 x3 x4 x5 HPZ hz hgz
 rotate_left
 focus
  obtain ⟨m,hm⟩: ∃m,L=m+1:=⟨L - 1,by omega⟩
  have HMX:Hid (m<xs.length):=hid (by
   have h1:=congrArg List.length HXE.o
   rw [List.length_map,HLE.o] at h1
   omega)
  have HML:Hid (m<l.log.length):=hid (by rw [HLE.o];omega)
  have HLM:Hid (l.log.getLast? =some (l.log[m]'HML.o)):=hid (by
   rw [List.getLast?_eq_getElem?,show l.log.length - 1=m by have:=HLE.o;omega,lE HML.o])
  have HXM:Hid ((xs[m]'HMX.o).e=l.log[m]'HML.o):=hid (by
   have h1:=congrArg (fun q=>q[m]?) HXE.o
   simp only [List.getElem?_map,lE HMX.o,lE HML.o,Option.map_some] at h1
   exact Option.some.inj h1)
  have hgz:(0:Int)<(L:Int):=by omega
  have hw2:wrap64 ((L:Int) - 1)=(m:Int):=by rw [IntWalk.wrap64_in _ ⟨by omega,by omega⟩];omega
  have hml:(m:Int)<(L:Int):=by omega
  have hm0:(0:Int)≤(m:Int):=by omega
  obtain ⟨hnx,_,_,he,_,_,_,hcell⟩:=sixes_cells (f:=EV.cells) (fun _=>rfl) (own_later HXO.o (by rw [HN.o];exact HBV.o))
  obtain ⟨b5,hb5,_,hj⟩:=hcell m HMX.o
  injection he with e1 e1b e1c
  rw [← e1] at hb5
  have r3:V.cell? ⟨b5,m*6+3,none⟩=some (.int .i64 (xs[m]'HMX.o).e.day):=hj 3 (by decide)
  obtain ⟨y3,hy3⟩:=ex_eq (xs[m]'HMX.o).e.day
  have hdy3: ¬(dy:Int)<y3:=by
   have:=HDY.o _ HLM.o
   rw [← HXM.o,hy3] at this
   omega
  rw [hy3] at r3
  obtain ⟨sa,sc,he2,_,_,hSS,_,_⟩:=strs_of_own (own_later HSO.o (by rw [HN.o];exact HBV.o))
  obtain ⟨b6,o6,hb6,hs6⟩: ∃b o,sa=some ⟨b,o,none⟩∧ ∀i,i<ss.length→V.cell? ⟨b,o+i,none⟩=some (.string (ss.getD i ByteArray.empty)):=by
   rcases hSS with h | h
   ·have:=HSL.o;rw [h] at this;simp at this;omega
   ·exact h
  injection he2 with e2 e2b e2c
  rw [← e2] at hb6
  have r5:=hs6 m (by rw [HSL.o];omega)
  have HPM:Hid (ss.getD m ByteArray.empty=PV):=hid (HPV.o _ (by
   rw [← HPE.o,nb_prevOf (fun e=>by have:=HML.o;rw [e] at this;simp at this)]
   have h1:=congrArg (fun q=>q[m]?) HSE.o
   simp only [List.getElem?_map,lE (show m<ss.length by rw [HSL.o];omega),lE HML.o,Option.map_some] at h1
   have h2:=Option.some.inj h1
   rw [lD,lE (show m<ss.length by rw [HSL.o];omega),Option.getD_some,h2,List.getLast_eq_getElem]
   congr 1
   congr 1
   rw [HLE.o];omega))
  rw [HPM.o] at r5
  clear hcell hj e1 hs6 hSS e2 hy3 hnx e1b e1c e2b e2c
  obtain ⟨k2,kk,l1,l2⟩:=HCE.o _ HBV.o
  rw [hb5] at l1
  rw [hb6] at l2
  have HBX:=hid hb5
  have HBX2:=hid hb6
  clear hb5 hb6
  go_upto_region 12 with fail
  refine wp_over (fun V=>Hid (V.heap[X]? =some (.cells #[.int .i64 (d:Int),.int .i64 ((L:Int)+1),.int .i64 (kd:Int),.int .i64 (dy:Int),.slice a2 n cp2,.string PV] 92 (0,0)))∧Hid (Below N w V)∧Hid (V.heap[N]? =some (.cells #[.int .i64 0,.int .i64 0,.int .i64 0,.int .i64 0,.slice none 0 0,.string ByteArray.empty] 92 (0,0)))∧Hid (BytesAt V a2 bs)∧Hid (X+1≤V.heap.size)) ⟨heap_setCell_same _ X 5 _ _ _ HX.o,HBV.o.setCell (p:=⟨X,5,none⟩) (by show N≤X;have:=HXN.o;omega) _,(Below.heap_setCell _ _ _ _ (by show N≠X;have:=HXN.o;omega)).trans HZV.o,bytes_ne HBYV.o (Chg.setCell1 (M:=fun k _=>k=X) _ _ _ _ rfl) (fun hne ad e i h=>by have:=(HA2.o hne ad e).2;omega),hid (by rw [show (V.setCell ⟨X,5,none⟩ (Value.string PV)).heap.size=V.heap.size by simp [World.setCell],HVS.o];exact Nat.le_refl _)⟩ ?_
  clear fX x0 x1 x2 x3 x4 x5 hgz hw2 hml hm0 r3 hdy3 r5 k2 kk l1 l2 HBX HBX2 HPM HXM HLM HML HMX hm hz
 all_goals
  clear HX HBV HZV HBYV HVS
  rintro V1 ⟨HX,HBV,HZV,HBYV,HVS⟩
  go_upto_region 14 with fail
  have HLV1:Hid (Laid V1):=hid (HL.o.later (B:=N) HBV.o (by rw [HN.o];exact Nat.le_refl _))
  obtain ⟨x0,x1,x2,x3,x4,x5⟩:=row6 HX.o
  go_upto_region 17 with (first
   | (go_at_call 62
      (refine (HSUM.o a2 cp2 PV (by rw [HPE.o]) HN2.o _ HBYV.o HLV1.o).mono ?_)
      rintro e w5 ⟨u5,rfl,hu5,hz5,h5⟩
      have HU5:=hid hu5
      have H5:=hid h5
      clear hu5 hz5 h5 x0 x1 x2 x3 x4 x5))
  have HX5:=hid ((H5.o.block X (by have:=HVS.o;omega)).trans HX.o)
  have HN5:=hid ((H5.o.block N (by have:=HVS.o;have:=HXN.o;omega)).trans HZV.o)
  have HB5:=hid (HBYV.o.later H5.o)
  have HBW:Hid (Below N w w5):=hid (HBV.o.trans (H5.o.mono (by have:=HVS.o;have:=HXN.o;omega)))
  have HS5:Hid (X+1≤w5.heap.size):=hid (Nat.le_trans HVS.o H5.o.size)
  obtain ⟨VD,hVD⟩:=ex_eq w5.drew
  have HXD:Hid (VD.heap[X]? =some (.cells #[.int .i64 (d:Int),.int .i64 ((L:Int)+1),.int .i64 (kd:Int),.int .i64 (dy:Int),.slice a2 n cp2,.string PV] 92 (0,0))):=hid (by rw [← hVD];exact HX5.o)
  have HND:Hid (VD.heap[N]? =some (.cells #[.int .i64 0,.int .i64 0,.int .i64 0,.int .i64 0,.slice none 0 0,.string ByteArray.empty] 92 (0,0))):=hid (by rw [← hVD];exact HN5.o)
  have HBD:Hid (BytesAt VD a2 bs):=hid (by rw [← hVD];exact HB5.o.later (Below.refl _ _).drew)
  have HWD:Hid (Below N w VD):=hid (by rw [← hVD];exact HBW.o.drew)
  have HSD:Hid (X+1≤VD.heap.size):=hid (by rw [← hVD];exact HS5.o)
  have HGD:Hid (VD.heap[g]? =some (.cells (lineRow l.pub (.slice al L cl) (.slice sl L cs) (l.sealed':Int) hx l.fork.isSome f0 f1 f2 f3 f4 f5 f6 f7 f8 f9 f10 f11 f12 f13 f14) 222 (0,0))):=hid ((HWD.o.block g (by rw [← HN.o];exact (gS HRW.o).1)).trans HRW.o)
  refine Kit.wp_region_lplan (fun V=>V.cell? ⟨g,1,none⟩=some (.slice al L cl)∧V.cell? ⟨X,0,none⟩=some (.int .i64 (d:Int))∧V.cell? ⟨X,1,none⟩=some (.int .i64 ((L:Int)+1))∧V.cell? ⟨X,2,none⟩=some (.int .i64 (kd:Int))∧V.cell? ⟨X,3,none⟩=some (.int .i64 (dy:Int))∧V.cell? ⟨X,4,none⟩=some (.slice a2 n cp2)∧V.cell? ⟨X,5,none⟩=some (.string PV)∧ ∀i,V.frozen? ⟨g,i,none⟩=false) 10 [(true,0),(true,1),(true,2),(true,3),(true,4),(true,5),(false,6),(false,7),(false,8),(true,9),(false,10)] (by kernel_rfl) (by kernel_rfl) (by kernel_rfl) (by kernel_rfl) (by rw [hVD];exact HSF.o X a2 cp2 _ HGD.o HXD.o) ?_
  rw [hVD]
  clear hVD HX5 HN5 HB5 HBW HS5
  iterate 6 (refine Kit.lhd (h:=?_))
  refine Kit.lplan_op (by rfl) (by rfl) (fun K hK=> ?_) (by decide)
  go_simp
  have HWA:Hid (∀o,Below w.heap.size w (VD.alloc o)):=hid (fun o=>by have h:=HWD.o;rw [← HN.o] at h;exact h.alloc h.size o)
  have HGA:Hid (∀o,(VD.alloc o).heap[g]? =some (.cells (lineRow l.pub (.slice al L cl) (.slice sl L cs) (l.sealed':Int) hx l.fork.isSome f0 f1 f2 f3 f4 f5 f6 f7 f8 f9 f10 f11 f12 f13 f14) 222 (0,0))):=hid (fun o=>(Below.heap_alloc _ _ _ (gS HGD.o).1).trans HGD.o)
  have HXA:Hid (∀o,(VD.alloc o).heap[X]? =some (.cells #[.int .i64 (d:Int),.int .i64 ((L:Int)+1),.int .i64 (kd:Int),.int .i64 (dy:Int),.slice a2 n cp2,.string PV] 92 (0,0))):=hid (fun o=>(Below.heap_alloc _ _ _ (gS HXD.o).1).trans HXD.o)
  refine hK _ _ (HSF.o X a2 cp2 _ (HGA.o _) (HXA.o _)) ?_
  clear hK K
  refine Kit.lplan_op (by rfl) (by rfl) (fun K hK=> ?_) (by decide)
  refine wp_app_ents (w0:=VD.alloc (.cells #[.int .i64 (d:Int),.int .i64 ((L:Int)+1),.int .i64 (kd:Int),.int .i64 (dy:Int),.slice a2 n cp2,.string PV] 92)) (.tmp 95) (.tmp 97) (by rfl) 0 (.slice al L cl) L xs (by rfl) (own_later HXO.o (HWA.o _)) (Nat.zero_le _) (by omega) ⟨VD.heap.size,0,none⟩ 1 1 [⟨newE l d kd dy bs,a2,cp2⟩] (by rfl) rfl (by decide) (ent_new _ (HYC.o a2 cp2)) (by omega) ?_
  intro bl7 cp7 w7 ho7 hg7 hat7
  have HAT7:Hid ((Value.slice al L cl).ownBlock=some bl7∨VD.heap.size+1=bl7):=hid (by
   rcases hat7 with h | h
   ·exact .inl h.symm
   ·exact .inr (by rw [h];simp))
  have HGR7:Hid (some g≠(Value.slice al L cl).ownBlock):=hid (not_row_of HXO.o HRW.o (by decide))
  have HG7:=hid ((hg7.block g (gS (HGA.o _)).1 HGR7.o).trans (HGA.o _))
  have HRB:Hid (∀q,some q=(Value.slice al L cl).ownBlock→q<w.heap.size):=hid (fun q e=>(HXO.o.lt q e.symm).2)
  have HX7:=hid ((hg7.block X (gS (HXA.o _)).1 (fun e=>by have:=HRB.o X e;have:=HXN.o;have:=HN.o;omega)).trans (HXA.o _))
  have HN7:=hid ((hg7.block N (by have:=HSD.o;have:=HXN.o;simp;omega) (fun e=>by have:=HRB.o N e;have:=HN.o;omega)).trans ((Below.heap_alloc _ _ _ (by have:=HSD.o;have:=HXN.o;omega)).trans HND.o))
  have HO7:=hid ho7
  have HCG7:Hid (Chg (fun k _=>some k=(Value.slice al L cl).ownBlock) VD w7):=hid ((Chg.alloc1 VD _).trans (Chg.of_grown hg7 (fun k _ e=>e.symm)))
  have HSZ7:Hid (VD.heap.size+1≤w7.heap.size):=hid (by have:=hg7.size;simpa using this)
  clear ho7 hg7 hat7
  refine hK _ _ (HSF.o X a2 cp2 _ HG7.o HX7.o) ?_
  clear hK K
  refine Kit.lplan_op (by rfl) (by rfl) (fun K hK=> ?_) (by decide)
  go_simp
  refine hK _ _ (HSF.o X a2 cp2 _ HG7.o HX7.o) ?_
  clear hK K
  iterate 1 (refine Kit.lhd (h:=?_))
  obtain ⟨k1,_,_,_,_,_,_,kf⟩:=HSF.o X a2 cp2 _ HG7.o HX7.o
  refine Kit.lplan_last (by rfl) (by rfl) fun K hK=> ?_
  go_simp
  refine hK _ _ ?_
  clear hK K
  refine Kit.ldn (h:=?_)
  obtain ⟨V8,hV8⟩:=ex_eq (w7.setCell ⟨g,1,none⟩ (.slice (some ⟨bl7,0,none⟩) (L+1) cp7))
  have HC8:Hid (Chg (fun k _=>k=g) w7 V8):=hid (by rw [← hV8];exact Chg.setCell1 _ _ _ _ rfl)
  have HG8:Hid (V8.heap[g]? =some (.cells (lineRow l.pub (.slice (some ⟨bl7,0,none⟩) (L+1) cp7) (.slice sl L cs) (l.sealed':Int) hx l.fork.isSome f0 f1 f2 f3 f4 f5 f6 f7 f8 f9 f10 f11 f12 f13 f14) 222 (0,0))):=hid (by rw [← hV8];exact heap_setCell_same w7 g 1 _ _ _ HG7.o)
  rw [hV8]
  clear hV8 k1 kf
  have HGW:Hid (g<N):=hid (by rw [← HN.o];exact (gS HRW.o).1)
  have HX8:=hid ((HC8.o.other X (gS HX7.o).1 (fun _ e=>by have:=HGW.o;have:=HXN.o;omega)).trans HX7.o)
  have HN8:=hid ((HC8.o.other N (gS HN7.o).1 (fun _ e=>by have:=HGW.o;omega)).trans HN7.o)
  have HO8:Hid (V8.ownsRow 0 92 6 (.slice (some ⟨bl7,0,none⟩) (L+1) cp7) (L+1) (evs (xs++[⟨newE l d kd dy bs,a2,cp2⟩]))):=hid (ownsRow_keepM HO7.o HC8.o (fun q hq i e=>by
   rw [e] at hq
   exact not_row_of HO7.o HG7.o (by decide) hq.symm))
  have HSD7:=hid (own_later HSO.o (HWA.o (.cells #[] 5)))
  have HSO8:Hid (V8.ownsRow 0 9 1 (.slice sl L cs) L (strV ss)):=hid (by
   have h0:Below w.heap.size w VD:=by have h:=HWD.o;rw [← HN.o] at h;exact h
   have h1:=own_later HSO.o h0
   have h2:=ownsRow_keepM h1 HCG7.o (fun q hq i e=>rows_apart h1 (own_later HXO.o h0) (by decide) hq e)
   exact ownsRow_keepM h2 HC8.o (fun q hq i e=>by
    rw [e] at hq
    exact not_row_of h2 HG7.o (by decide) hq.symm))
  have HB8:Hid (BytesAt V8 a2 bs):=hid (bytes_ne (bytes_ne HBD.o HCG7.o (fun hne ad e i h=>by have:=HRB.o _ h;have:=(HA2.o hne ad e).1;have:=HN.o;omega)) HC8.o (fun hne ad e i h=>by have:=(HA2.o hne ad e).1;have:=HGW.o;omega))
  have HSZ8:Hid (X+2≤V8.heap.size):=hid (by have:=HC8.o.size;have:=HSZ7.o;have:=HSD.o;omega)
  have HW8:Hid (Chg (fun k _=>G k=s+1+d∨w.heap.size≤k) w V8):=hid (by
   have h0:Below w.heap.size w VD:=by have h:=HWD.o;rw [← HN.o] at h;exact h
   exact (((Chg.of_below h0).trans (HCG7.o.mono fun q i _ e=> .inl (HXT.o q e.symm))).trans (HC8.o.mono fun q i _ e=> .inl (by rw [e];exact HGT.o))))
  obtain ⟨_,_,l2,_,_,_,lf⟩:=line_cells HG8.o
  go_upto_region 19 with (first
   | (at_builtin
      refine app_strAt (w0:=V8) rfl _ _ rfl 0 (.slice sl L cs) L ss (by rfl) HSO8.o (Nat.zero_le _) (by omega) u5 1 (by rfl) ?_
      intro bl8 cp8 w8 ho8 hg8 hat8
      have HAT8:=hid hat8
      have HGR8:Hid (some g≠(Value.slice sl L cs).ownBlock):=hid (not_row_of HSO8.o HG8.o (by decide))
      have HS8B:Hid (∀q,some q=(Value.slice sl L cs).ownBlock→q<w.heap.size):=hid (fun q e=>(HSO.o.lt q e.symm).2)
      have HG9:=hid ((hg8.block g (by have:=HGW.o;have:=HXN.o;have:=HSZ8.o;simp;omega) HGR8.o).trans ((Below.heap_alloc _ _ _ (by have:=HGW.o;have:=HXN.o;have:=HSZ8.o;omega)).trans HG8.o))
      have HO9:=hid ho8
      have HCG9:Hid (Chg (fun k _=>some k=(Value.slice sl L cs).ownBlock) V8 w8):=hid ((Chg.alloc1 V8 _).trans (Chg.of_grown hg8 (fun k _ e=>e.symm)))
      have HSZ9:Hid (V8.heap.size+1≤w8.heap.size):=hid (by have:=hg8.size;simpa using this)
      clear ho8 hg8 hat8 l2 lf
      obtain ⟨_,_,l2,_,_,_,lf⟩:=line_cells HG9.o))
  obtain ⟨V10,hV10⟩:=ex_eq (w8.setCell ⟨g,2,none⟩ (.slice (some ⟨bl8,0,none⟩) (L+1) cp8))
  have HC10:Hid (Chg (fun k _=>k=g) w8 V10):=hid (by rw [← hV10];exact Chg.setCell1 _ _ _ _ rfl)
  have HG10:Hid (V10.heap[g]? =some (.cells (lineRow l.pub (.slice (some ⟨bl7,0,none⟩) (L+1) cp7) (.slice (some ⟨bl8,0,none⟩) (L+1) cp8) (l.sealed':Int) hx l.fork.isSome f0 f1 f2 f3 f4 f5 f6 f7 f8 f9 f10 f11 f12 f13 f14) 222 (0,0))):=hid (by rw [← hV10];exact heap_setCell_same w8 g 2 _ _ _ HG9.o)
  rw [hV10]
  clear hV10 l2 lf
  have HCX:Hid (Chg (fun k _=>k=g∨some k=(Value.slice sl L cs).ownBlock) V8 V10):=hid ((HCG9.o.mono fun _ _ _ e=> .inr e).trans (HC10.o.mono fun _ _ _ e=> .inl e))
  have HX10:=hid ((HCX.o.other X (gS HX8.o).1 (fun _ e=>by
   have h1:=HGW.o;have h2:=HXN.o;have h3:=HN.o
   rcases e with e | e
   ·omega
   ·have:=HS8B.o _ e;omega)).trans HX8.o)
  have HN10:=hid ((HCX.o.other N (gS HN8.o).1 (fun _ e=>by
   have h1:=HGW.o;have h3:=HN.o
   rcases e with e | e
   ·omega
   ·have:=HS8B.o _ e;omega)).trans HN8.o)
  have HB10:Hid (BytesAt V10 a2 bs):=hid (bytes_ne HB8.o HCX.o (fun hne ad e i h=>by
   have h1:=(HA2.o hne ad e).1;have h2:=HGW.o;have h3:=HN.o
   rcases h with h | h
   ·omega
   ·have:=HS8B.o _ h;omega))
  have HO10:Hid (V10.ownsRow 0 92 6 (.slice (some ⟨bl7,0,none⟩) (L+1) cp7) (L+1) (evs (xs++[⟨newE l d kd dy bs,a2,cp2⟩]))):=hid (ownsRow_keepM HO8.o HCX.o (fun q hq i e=>by
   rcases e with e | e
   ·rw [e] at hq
    exact not_row_of HO8.o HG8.o (by decide) hq.symm
   ·exact rows_apart HO8.o HSO8.o (by decide) hq e))
  have HSO10:Hid (V10.ownsRow 0 9 1 (.slice (some ⟨bl8,0,none⟩) (L+1) cp8) (L+1) (strV (ss++[u5]))):=hid (ownsRow_keepM HO9.o HC10.o (fun q hq i e=>by
   rw [e] at hq
   exact not_row_of HO9.o HG9.o (by decide) hq.symm))
  have HSZ10:Hid (V8.heap.size+1≤V10.heap.size):=hid (Nat.le_trans HSZ9.o HC10.o.size)
  have HW10:Hid (Chg (fun k _=>G k=s+1+d∨w.heap.size≤k) w V10):=hid (HW8.o.trans (HCX.o.mono fun q i _ e=>by
   rcases e with e | e
   ·exact .inl (by rw [e];exact HGT.o)
   ·exact .inl (HST0.o q e.symm)))
  obtain ⟨x0,x1,x2,x3,x4,x5⟩:=row6 HX10.o
  go_upto_region 20 with (first
   | (go_at_call 218
      (with_reducible refine (cloneEntry_any (d:Int) ((L:Int)+1) (kd:Int) (dy:Int) a2 n cp2 PV bs HNL.o (by omega) _ HB10.o).mono ?_)
      rintro e w11 ⟨a9,cp9,rfl,hn9,hb9,hg9,h9⟩
      have HN9:=hid hn9
      have HB9:=hid hb9
      have HG11:=hid hg9
      have H11:=hid h9
      clear hn9 hb9 hg9 h9 x0 x1 x2 x3 x4 x5
      have HN11:=hid ((H11.o.block N (gS HN10.o).1).trans HN10.o)
      obtain ⟨z0,z1,z2,z3,z4,z5⟩:=row6 HN11.o
      have zf:=cells6 HN11.o))
  refine bodyPost_ret (results_cell_row_tmp (p:=10) (u:=11) rfl _ _ N 92 #[.int .i64 (d:Int),.int .i64 ((L:Int)+1),.int .i64 (kd:Int),.int .i64 (dy:Int),.slice a9 n cp9,.string PV] (0,0) _ (by rfl) (put6_row6 HN11.o) Tryz.underlying92 rfl (by kernel_rfl)) rfl ?_
  have HCW:=chg6 (M:=fun k _=>k=N) (x0:= .int .i64 (d:Int)) (x1:= .int .i64 ((L:Int)+1)) (x2:= .int .i64 (kd:Int)) (x3:= .int .i64 (dy:Int)) (x4:= .slice a9 n cp9) (x5:= .string PV) (Chg.refl (fun k _=>k=N) w11) (fun _=>rfl)
  obtain ⟨WF,hWF⟩:=ex_eq ((((((w11.setCell ⟨N,0,none⟩ (.int .i64 (d:Int))).setCell ⟨N,1,none⟩ (.int .i64 ((L:Int)+1))).setCell ⟨N,2,none⟩ (.int .i64 (kd:Int))).setCell ⟨N,3,none⟩ (.int .i64 (dy:Int))).setCell ⟨N,4,none⟩ (.slice a9 n cp9)).setCell ⟨N,5,none⟩ (.string PV))
  rw [hWF] at HCW ⊢
  clear hWF zf z0 z1 z2 z3 z4 z5
  have hNw:=HN.o
  have hgN:=HGW.o
  have hcv:Chg (fun k _=>k=N) V10 WF:=(Chg.of_below H11.o).trans HCW
  have hb7: ∀q,(Value.slice al L cl).ownBlock=some q→q<w.heap.size:=fun q e=>HRB.o q e.symm
  have hb8: ∀q,(Value.slice sl L cs).ownBlock=some q→q<w.heap.size:=fun q e=>HS8B.o q e.symm
  have hl7:bl7<V10.heap.size:=(HO10.o.lt bl7 rfl).2
  have hl8:bl8<V10.heap.size:=(HSO10.o.lt bl8 rfl).2
  have hn7:bl7≠N:=by
   have h1:=HSD.o;have h2:=HXN.o
   rcases HAT7.o with h | h
   ·have:=hb7 _ h;omega
   ·omega
  have hn8:bl8≠N:=by
   have h1:=HSZ8.o;have h2:=HXN.o
   rcases HAT8.o with h | h
   ·have:=hb8 _ h.symm;omega
   ·omega
  have ht1: ∀k,k<w.heap.size→tagAt G (.slice (some ⟨bl7,0,none⟩) (L+1) cp7) (s+1+d) k=G k:=fun k hk=>
   tagAt_old (M:=VD.heap.size+1) HXT.o (by rcases HAT7.o with h | h;exact .inl h.symm;exact .inr (by rw [h];rfl)) k (by have:=HSD.o;have:=HXN.o;omega)
  have htag: ∀k,k<w.heap.size→tagAt (tagAt G (.slice (some ⟨bl7,0,none⟩) (L+1) cp7) (s+1+d)) (.slice (some ⟨bl8,0,none⟩) (L+1) cp8) (s+1+d) k=G k:=fun k hk=>
   (tagAt_old (M:=V8.heap.size+1) (fun b e=>(ht1 b (hb8 b e)).trans (HST0.o b e)) (by rcases HAT8.o with h | h;exact .inl h;exact .inr (by rw [h];rfl)) k (by have:=HSZ8.o;have:=HXN.o;omega)).trans (ht1 k hk)
  have hg7:tagAt (tagAt G (.slice (some ⟨bl7,0,none⟩) (L+1) cp7) (s+1+d)) (.slice (some ⟨bl8,0,none⟩) (L+1) cp8) (s+1+d) bl7=s+1+d:=by
   unfold tagAt
   split
   ·rfl
   ·exact if_pos rfl
  have hgt: ∀k,k≠bl7→k≠bl8→tagAt (tagAt G (.slice (some ⟨bl7,0,none⟩) (L+1) cp7) (s+1+d)) (.slice (some ⟨bl8,0,none⟩) (L+1) cp8) (s+1+d) k=G k:=fun k h1 h2=>by
   exact (if_neg (fun e=>h2 (Option.some.inj e).symm)).trans (if_neg (fun e=>h1 (Option.some.inj e).symm))
  obtain ⟨G3,hG3⟩:=ex_eq (tagAt (tagAt G (.slice (some ⟨bl7,0,none⟩) (L+1) cp7) (s+1+d)) (.slice (some ⟨bl8,0,none⟩) (L+1) cp8) (s+1+d))
  have hg8:G3 bl8=s+1+d:=by rw [← hG3];exact tagAt_own rfl
  rw [hG3] at htag hg7 hgt
  clear hG3
  have hstep:Step G G3 (fun q=>q=s+1+d) w WF:=⟨(HW10.o.trans (hcv.mono fun q i _ e=> .inr (by rw [e];omega))).mono fun q i hq e=>e.resolve_right (by omega),htag⟩
  have hsz:w.heap.size≤V10.heap.size:=HW10.o.size
  have hszF:V10.heap.size≤WF.heap.size:=hcv.size
  have hln:=HLN.o
  have hlw:LineAt WF G3 (s+1+d) g (appL l d kd dy bs):=by
   refine ⟨.slice (some ⟨bl7,0,none⟩) (L+1) cp7,.slice (some ⟨bl8,0,none⟩) (L+1) cp8,ss++[u5],hx,f0,f1,f2,f3,f4,f5,f6,f7,f8,f9,f10,f11,f12,f13,f14,⟨(hcv.other g (by omega) (fun _ e=>by omega)).trans HG10.o,(htag g (by omega)).trans HGT.o,⟨xs++[⟨newE l d kd dy bs,a2,cp2⟩],?_,?_,fun b hb=> ?_,fun y hy=> ?_⟩,?_,fun b hb=> ?_,?_,hln.head,hln.hok.step hstep (by omega),hln.fork.step hstep (by omega)⟩⟩
   ·rw [List.map_append,HXE.o];rfl
   ·have h:=ownsRow_keepM HO10.o hcv (fun q hq i e=>by have hq2:bl7=q:=Option.some.inj hq;omega)
    rw [show (appL l d kd dy bs).log.length=L+1 by unfold appL;simp [HLE.o]]
    exact h
   ·have hb2:bl7=b:=Option.some.inj hb
    rw [← hb2];exact hg7
   ·rcases List.mem_append.1 hy with h | h
    ·exact (HXK.o y h).step hstep (by omega)
    ·rw [List.mem_singleton] at h
     subst h
     refine ⟨HN2.o,bytes_ne HB10.o hcv (fun hne ad e i hi=>by have:=(HA2.o hne ad e).1;omega),fun hne ad e=> ?_⟩
     have h1:=HA2.o hne ad e
     have h2:ad.block≠bl7:=fun e2=>by
      have:=HSD.o
      rcases HAT7.o with h | h
      ·have:=hb7 _ h;omega
      ·omega
     have h3:ad.block≠bl8:=fun e2=>by
      have:=HSZ8.o
      rcases HAT8.o with h | h
      ·have:=hb8 _ h.symm;omega
      ·omega
     rw [hgt _ h2 h3]
     exact HO.o.hi _ (by omega)
   ·have h:=ownsRow_keepM HSO10.o hcv (fun q hq i e=>by have hq2:bl8=q:=Option.some.inj hq;omega)
    rw [show (appL l d kd dy bs).log.length=L+1 by unfold appL;simp [HLE.o]]
    exact h
   ·have hb2:bl8=b:=Option.some.inj hb
    rw [← hb2];exact hg8
   ·rw [List.map_append,HSE.o]
    show _=(l.log++[newE l d kd dy bs]).map sumE
    rw [List.map_append]
    congr 1
    show [nb u5]=[sumE (newE l d kd dy bs)]
    rw [HU5.o]
  have hfin: ∀ad,a9=some ad→w.heap.size≤ad.block∧G3 ad.block=0:=fun ad e=>by
   have h1:=HG11.o ad e
   refine ⟨by omega,?_⟩
   rw [hgt _ (by omega) (by omega)]
   exact HO.o.hi _ (by omega)
  refine ⟨a9,cp9,G3,by rw [HLE.o];rfl,⟨_,_,HS.o.put d HD.o.1 _ hstep HD.o.2.2 (by rw [HGE.o];exact hlw)⟩,⟨fun k hk=> ?_,fun k hk=> ?_,by have:=HO.o.size;omega⟩,hstep.mono (fun _ h=> .inl h),fun q=> ?_,HN9.o,bytesAt_chg HB9.o HCW (fun ad e i hi=>by have h1:=HG11.o ad e;have h2:=HSZ10.o;have h3:=HSZ8.o;have h4:=HXN.o;omega),hfin⟩
  ·rw [htag k (by have:=HO.o.size;omega)]
   exact HO.o.lo k hk
  ·rw [hgt k (by omega) (by omega)]
   exact HO.o.hi k (by omega)
  ·by_cases h1:q=bl7
   ·rw [h1,hg7];exact .inr (by have:=HD.o;omega)
   ·by_cases h2:q=bl8
    ·rw [h2,hg8];exact .inr (by have:=HD.o;omega)
    ·exact .inl (hgt q h1 h2)

end Go.Proofs.YtndlihclgdkpaaaGreatDoor
