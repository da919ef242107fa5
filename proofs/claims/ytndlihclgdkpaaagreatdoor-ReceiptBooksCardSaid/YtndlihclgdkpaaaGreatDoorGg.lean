/- Texts Wrt, Gsp, Gen, Tpl, Gst, Plh, Lpl, Gcl, Gpl, Gmp, Gsn, Gap, merged. -/
import Derived.Maps.OwnSet
import Derived.Laws.MakeOwn
import Derived.Maps.AppendAt
import Derived.Deep.OwnRows
import Derived.Test.YtndlihclgdkpaaaGreatDoorGb
import Derived.Test.YtndlihclgdkpaaaGreatDoorGc
import Derived.Test.YtndlihclgdkpaaaGreatDoorGd
import Derived.Test.YtndlihclgdkpaaaGreatDoorGf
/- wire.Writer. -/
set_option linter.unusedVariables false
set_option linter.unusedSimpArgs false
open Go.Lib (hid)
set_option maxHeartbeats 1000000
set_option maxRecDepth 100000
namespace Go.Proofs.YtndlihclgdkpaaaGreatDoor
open Go.RowKit
open Kit (Chg)
open Sha (v)
open Go.Proofs.YtndlihclgdkpaaaGreatDoor.One

section
variable {a:Act} {ops:Array Oper} {o:Oper} {rest:List Oper} {Q:Exit→Act→World→Prop}
theorem app_txt {w0:World} (hgd:o.guard=none) (s x:Operand) (ho:o.op= .call { callee:= .builtin .append,args:= #[s,x],argTypes:= #[52,9] })
    (base:Nat) (v:Value) (L:Nat) (cur:List Nat) (hs:a.eval s=v) (hown:w0.ownsRow base 5 1 v L (bvals cur)) (hb:base≤w0.heap.size) (hL:L≤1000000000000)
    (str:ByteArray) (m:Nat) (hm:str.size=m) (hm2:m≤1000000000000) (hx:a.eval x= .string str)
    (h: ∀v' w',w'.ownsRow base 5 1 v' (L+m) (bvals (cur++nb str))→Below base w0 w'→wpList Tryz.prog ops Q rest (a.put o.dst v') w'):wpList Tryz.prog ops Q (o::rest) a w0:=by
 obtain ⟨i0,hi,hz0,hz1,hz2⟩:=info_parts Tryz.info5
 subst hm
 refine wpList_append_str hgd s x 52 9 ho base 5 i0 Tryz.underlying52 Tryz.underlying9 hi hz0 hz1 hz2 v L (bvals cur) hs hown str hx (by unfold maxLen;omega) (by omega) hb ?_
 intro v' w4 hown4 hgr4
 refine h v' w4 (by rw [bvals_append];exact hown4) ?_
 exact (Chg.of_grown hgr4 (fun q _ e=>(hown.lt q e).1):Chg (fun q _=>base≤q) w0 w4).below hb (fun q i hq h=>by omega)
end
def WrAt (w:World) (g B:Nat) (bs:List Nat):Prop:=g<B∧B≤w.heap.size∧ ∃v L,bs.length=L∧w.heap[g]? =some (.cells #[v,.int .i64 0] 265 (0,0))∧w.ownsRow B 5 1 v L (bvals bs)∧(∀x ∈ bs,x<256)
def WrM (g B:Nat):Nat→Nat→Prop:=fun q _=>q=g∨B≤q
theorem WrAt.later {w w':World} {g B:Nat} {bs:List Nat} (h:WrAt w g B bs) (hb:Below w.heap.size w w'):WrAt w' g B bs:=by
 obtain ⟨h5,h6,v,L,h1,h2,h3,h4⟩:=h
 refine ⟨h5,Nat.le_trans h6 hb.size,v,L,h1,(hb.block g (gS h2).1).trans h2,?_,h4⟩
 exact ownsRow_keepM h3 (Chg.of_below hb:Chg (fun _ _=>False) w w') (fun q hq i e=>e)
theorem WrAt.start {w:World} {g B:Nat} (h:w.heap[g]? =some (.cells #[.slice none 0 0,.int .i64 0] 265 (0,0))) (hg:g<B) (hB:B≤w.heap.size):WrAt w g B []:=⟨hg,hB,.slice none 0 0,0,rfl,h,⟨rfl,.inl ⟨rfl,rfl⟩⟩,by simp⟩
theorem WrAt.put {w:World} {g B:Nat} {v0 v:Value} {L:Nat} {bs:List Nat} (h5:g<B) (h6:B≤w.heap.size) (hg:w.heap[g]? =some (.cells #[v0,.int .i64 0] 265 (0,0))) (ho:w.ownsRow B 5 1 v L (bvals bs)) (hl:bs.length=L) (hb: ∀x ∈ bs,x<256):WrAt (w.setCell ⟨g,0,none⟩ v) g B bs:=
 ⟨h5,by simpa [World.setCell] using h6,v,L,hl,heap_setCell_same w g 0 _ _ _ hg,ownsRow_keepM ho (Chg.setCell1 (M:=fun q _=>q=g) w g 0 v rfl) (fun q hq i e=>by have:=(ho.lt q hq).1;omega),hb⟩
theorem wr_chg {w0 w:World} {g B:Nat} {v:Value} (h:Below B w0 w):Chg (WrM g B) w0 (w.setCell ⟨g,0,none⟩ v):=(Chg.of_below' h (fun k i hk _=> .inr hk)).setCell _ (.inl rfl)
theorem wr_cells {w:World} {g:Nat} {v:Value} (h:w.heap[g]? =some (.cells #[v,.int .i64 0] 265 (0,0))):w.cell? ⟨g,0,none⟩=some v∧w.cell? ⟨g,1,none⟩=some (.int .i64 0)∧ ∀i,w.frozen? ⟨g,i,none⟩=false:=
 ⟨cr h,cr h,fun i=>frozen_of_row _ _ _ _ _ h⟩
theorem BytesAt.blk {w:World} {a:Option Addr} {bs:List Nat} (h:BytesAt w a bs): ∀ad,a=Option.some ad→bs≠[]→ad.block<w.heap.size:=by
 intro ad e hne
 rcases h.1 with h0 | ⟨b,o,e2,hc⟩
 ·exact absurd h0 hne
 ·rw [e] at e2
  cases e2
  exact World.block_lt_of_cell? w ⟨b,o+0,none⟩ (hc 0 (List.length_pos_iff.2 hne))
theorem newWriter_ok (w:World):Calls Tryz.prog 103 #[] w fun e w'=> ∃g,e= .returned (.pointer (some ⟨g,0,none⟩))∧w'.heap[g]? =some (.cells #[.slice none 0 0,.int .i64 0] 265 (0,0))∧w.heap.size≤g∧Below w.heap.size w w':=by
 have HB:Hid (Below w.heap.size w (w.alloc (.cells #[.slice none 0 0,.int .i64 0] 265))):=hid ((Below.refl _ _).alloc (Nat.le_refl _) _)
 have HR:Hid ((w.alloc (.cells #[.slice none 0 0,.int .i64 0] 265)).heap[w.heap.size]? =some (.cells #[.slice none 0 0,.int .i64 0] 265 (0,0))):=hid (heap_alloc_new w _)
 go_enter Tryz.func103,Tryz.ntmps103
 go_wp2
 go_ret
 exact ⟨_,rfl,HR.o,Nat.le_refl _,HB.o⟩
theorem extend_l (base:Nat) (x:Value) (bs:List Nat) (L:Nat) (hLe:bs.length=L) (n:Nat) (hn:n<18446744073709551616) (hl:L≤100000) (hb8: ∀x ∈ bs,x<256) (w:World) (hO:w.ownsRow base 5 1 x L (bvals bs)) (hb:base≤w.heap.size):
    Calls Tryz.prog 200 #[x,.int .u64 (n:Int)] w fun e w'=> ∃v' L',e= .returned v'∧(bs++num n).length=L'∧w'.ownsRow base 5 1 v' L' (bvals (bs++num n))∧(∀x ∈ bs++num n,x<256)∧L'≤L+10∧Below base w w':=by
 subst hLe
 refine (extend_any base x bs n hn hl w hO hb).mono ?_
 rintro e w' ⟨v',rfl,h1,h2⟩
 refine ⟨v',_,rfl,rfl,h1,fun y hy=> ?_,by rw [List.length_append];have:=num_len10 hn;omega,h2.below hb (fun q i hq h=>by omega)⟩
 rcases List.mem_append.1 hy with h | h
 ·exact hb8 y h
 ·exact num_lt n y h
theorem wrUint_ok (g B:Nat) (bs:List Nat) (n:Nat) (hn:n<18446744073709551616) (hl:bs.length≤100000) (w:World) (h:WrAt w g B bs):
    Calls Tryz.prog 105 #[.pointer (some ⟨g,0,none⟩),.int .u64 (n:Int)] w fun e w'=>e= .returned (.tuple #[])∧WrAt w' g B (bs++num n)∧Chg (WrM g B) w w':=by
 obtain ⟨hgB,hlt,v0,L,hL,hg,ho,hb8⟩:=h
 have HG:=hid hg
 have HX:=hid (extend_l B v0 bs L hL n hn (by omega) hb8 w ho hlt)
 have HLT:=hid hlt
 have HGB:=hid hgB
 obtain ⟨c0,c1,cf⟩:=wr_cells hg
 have HL0:Hid (L≤100000):=hid (by omega)
 clear hg ho hL hlt hgB hb8 hl
 go_enter Tryz.func105,Tryz.ntmps105
 go_wp2_with (first
  | (go_at_call 200
     (refine HX.o.mono ?_)
     rintro e w2 ⟨v2,L2,rfl,hL2,ho2,hb2,hle2,h2⟩
     have hl0:=HL0.o
     obtain ⟨a2,cp2,rfl,_,_,_,_,_⟩:=own_bytes ho2 hb2 (by unfold maxLen;omega)
     have HG2:=hid ((h2.block g HGB.o).trans HG.o)
     have HO2:=hid ho2
     have HL2:=hid hL2
     have HB2:=hid hb2
     have H2:=hid h2
     clear c0 c1 cf
     obtain ⟨c0,c1,cf⟩:=wr_cells HG2.o
     clear ho2 hL2 hb2 h2 hle2 hl0))
 go_end0
 refine ⟨rfl,WrAt.put HGB.o (by have:=H2.o.size;have:=HLT.o;omega) HG2.o HO2.o HL2.o HB2.o,wr_chg H2.o⟩
theorem wrText_ok (g B:Nat) (bs:List Nat) (s:ByteArray) (L:Nat) (hLe:s.size=L) (hl:bs.length≤100000) (hl2:L≤100000000) (w:World) (h:WrAt w g B bs):
    Calls Tryz.prog 186 #[.pointer (some ⟨g,0,none⟩),.string s] w fun e w'=>e= .returned (.tuple #[])∧WrAt w' g B (bs++(num L++nb s))∧Chg (WrM g B) w w':=by
 obtain ⟨hgB,hlt,v0,L0,hL,hg,ho,hb8⟩:=h
 have HG:=hid hg
 have hex:=extend_l B v0 bs L0 hL L (by omega) (by omega) hb8 w ho hlt
 have HLT:=hid hlt
 have HGB:=hid hgB
 have HLE:=hid hLe
 rw [← hLe] at hex
 have HX:=hid hex
 have HL0:Hid (L0≤100000):=hid (by omega)
 obtain ⟨c0,c1,cf⟩:=wr_cells hg
 have hwu:IntKind.u64.wrap (s.size:Int)=(s.size:Int):=by rw [IntKind.wrap_u64];omega
 clear hg ho hL hlt hgB hb8 hl hLe hex
 go_enter Tryz.func186,Tryz.ntmps186
 go_wp2_with (first
  | (go_at_call 200
     (refine HX.o.mono ?_)
     rintro e w2 ⟨v2,L2,rfl,hL2,ho2,hb2,hle2,h2⟩
     have hl0:=HL0.o
     obtain ⟨a2,cp2,rfl,_,_,_,_,_⟩:=own_bytes ho2 hb2 (by unfold maxLen;omega)
     have HG2:=hid ((h2.block g HGB.o).trans HG.o)
     have HO2:=hid ho2
     have HL2:=hid hL2
     have HB2:=hid hb2
     have H2:=hid h2
     have HLE2:=hid hle2
     have HZ2:Hid (B≤w2.heap.size):=hid (by have:=h2.size;have:=HLT.o;omega)
     clear c0 c1 cf
     obtain ⟨c0,c1,cf⟩:=wr_cells HG2.o
     clear ho2 hL2 hb2 h2 hle2 hl0)
  | (at_builtin
     refine app_txt rfl _ _ rfl B _ L2 (bs++num s.size) (by rfl) HO2.o HZ2.o (by have:=HLE2.o;have:=HL0.o;omega) s L HLE.o (by omega) (by rfl) ?_
     intro v3 w3 ho3 h3
     obtain ⟨a3,cp3,rfl,_,_,_,_,_⟩:=own_bytes ho3 (app_lt HB2.o (nb_lt s)) (by rw [List.length_append,HL2.o,nb_length,HLE.o];have:=HLE2.o;have:=HL0.o;unfold maxLen;omega)
     have HG3:=hid ((h3.block g HGB.o).trans HG2.o)
     have HO3:=hid ho3
     have H3:=hid (H2.o.trans h3)
     clear c0 c1 cf
     obtain ⟨c0,c1,cf⟩:=wr_cells HG3.o
     clear ho3 h3))
 go_end0
 refine ⟨rfl,?_,wr_chg H3.o⟩
 rw [← List.append_assoc,show num L=num s.size by rw [HLE.o]]
 exact WrAt.put HGB.o (by have:=H3.o.size;have:=HLT.o;omega) HG3.o HO3.o (by rw [List.length_append,HL2.o,nb_length,HLE.o]) (app_lt HB2.o (nb_lt s))
theorem wrSum_ok (g B:Nat) (bs:List Nat) (s:ByteArray) (hs:s.size=32) (hl:bs.length≤100000) (w:World) (h:WrAt w g B bs):
    Calls Tryz.prog 107 #[.pointer (some ⟨g,0,none⟩),.string s] w fun e w'=>e= .returned (.tuple #[])∧WrAt w' g B (bs++nb s)∧Chg (WrM g B) w w':=by
 obtain ⟨hgB,hlt,v0,L0,hL,hg,ho,hb8⟩:=h
 have HG:=hid hg
 have HO:=hid ho
 have HLT:Hid (B≤w.heap.size):=hid hlt
 have HGB:=hid hgB
 have HS:=hid hs
 have HL0:Hid (L0≤100000):=hid (by omega)
 have HL:=hid hL
 have HB8:=hid hb8
 have hne:(((s.size:Nat):Int) != 32)=false:=by rw [hs];rfl
 obtain ⟨c0,c1,cf⟩:=wr_cells hg
 clear hg ho hL hlt hgB hb8 hl hs
 go_enter Tryz.func107,Tryz.ntmps107
 go_wp2_with (first
  | (at_builtin
     refine app_txt rfl _ _ rfl B _ L0 bs (by rfl) HO.o HLT.o (by have:=HL0.o;omega) s 32 HS.o (by decide) (by rfl) ?_
     intro v3 w3 ho3 h3
     obtain ⟨a3,cp3,rfl,_,_,_,_,_⟩:=own_bytes ho3 (app_lt HB8.o (nb_lt s)) (by rw [List.length_append,HL.o,nb_length,HS.o];have:=HL0.o;unfold maxLen;omega)
     have HG3:=hid ((h3.block g HGB.o).trans HG.o)
     have HO3:=hid ho3
     have H3:=hid h3
     clear c0 c1 cf
     obtain ⟨c0,c1,cf⟩:=wr_cells HG3.o
     clear ho3 h3))
 go_end0
 refine ⟨rfl,?_,wr_chg H3.o⟩
 exact WrAt.put HGB.o (by have:=H3.o.size;have:=HLT.o;omega) HG3.o HO3.o (by rw [List.length_append,HL.o,nb_length,HS.o]) (app_lt HB8.o (nb_lt s))
theorem own_empty_bytes (w:World):(w.alloc (.cells #[] 5)).ownsRow w.heap.size 5 1 (.slice (some ⟨w.heap.size,0,none⟩) 0 0) 0 (bvals []):=⟨rfl,.inr ⟨w.heap.size,0,#[],rfl,Nat.le_refl _,heap_alloc_new w _,Nat.le_refl _,by decide,rfl,rfl⟩⟩
theorem wrDone_ok (g B:Nat) (bs:List Nat) (hl:bs.length≤1048576) (w:World) (h:WrAt w g B bs):
    Calls Tryz.prog 108 #[.pointer (some ⟨g,0,none⟩)] w fun e w'=> ∃a L cap,e= .returned (.tuple #[.slice a L cap,.int .i64 0])∧bs.length=L∧L≤cap∧BytesAt w' a bs∧(a=none→cap=0)∧(∀ad,a=some ad→w.heap.size≤ad.block)∧Below w.heap.size w w':=by
 obtain ⟨hgB,hlt,v0,L,hL,hg,ho,hb8⟩:=h
 obtain ⟨a0,cp0,rfl,hl0,hcp0,hB0,hnil0,_⟩:=own_bytes ho hb8 (by unfold maxLen;omega)
 have HB0:=hid (hB0.later ((Below.refl w.heap.size w).alloc (Nat.le_refl _) (.cells #[] 5)))
 have HN0:=hid hnil0
 have HL:=hid hL
 have HB8:=hid hb8
 have HLL:Hid (L≤1048576):=hid (by omega)
 have hgt:decide (1048576<L)=false:=decide_eq_false (by omega)
 have hgt2:((1048576:Int)<(L:Int))=False:=eq_false (by omega)
 have hgt3:decide ((1048576:Int)<(L:Int))=false:=decide_eq_false (by omega)
 have HW1:Hid (w.heap.size≤(w.alloc (.cells #[] 5)).heap.size):=hid (by simp)
 have HE:=hid (own_empty_bytes w)
 have HBW:Hid (Below w.heap.size w (w.alloc (.cells #[] 5))):=hid ((Below.refl _ _).alloc (Nat.le_refl _) _)
 obtain ⟨c0,c1,cf⟩:=wr_cells hg
 obtain ⟨d0,d1,df⟩:=wr_cells ((HBW.o.block g (gS hg).1).trans hg)
 clear hg ho hL hgB hlt hb8 hl hB0 hnil0 hl0 hcp0
 go_enter Tryz.func108,Tryz.ntmps108
 go_wp2_with (first
  | (at_builtin
     refine app_bytes rfl _ _ rfl w.heap.size _ 0 [] (by rfl) HE.o HW1.o (by decide) a0 L cp0 bs HL.o (by have:=HLL.o;omega) (by rfl) HB0.o HN0.o ?_
     intro v3 w3 ho3 h3
     have HO3:=hid ho3
     have H3:=hid (HBW.o.trans h3)
     clear ho3 h3))
 have ho3:=HO3.o
 rw [List.nil_append,Nat.zero_add] at ho3
 obtain ⟨a3,cp3,rfl,hl3,hcp3,hB3,hnil3,hlt3⟩:=own_bytes ho3 HB8.o (by have:=HL.o;have:=HLL.o;unfold maxLen;omega)
 go_ret2
 exact ⟨a3,L,cp3,rfl,hl3,by omega,hB3,hnil3,fun ad e=>(hlt3 ad e).1,H3.o⟩
end Go.Proofs.YtndlihclgdkpaaaGreatDoor
namespace Go.Proofs.YtndlihclgdkpaaaGreatDoor
open Go.Proofs.YtndlihclgdkpaaaGreatDoor.One

structure Ent where
 dev:Int
 seq:Int
 kind:Int
 day:Int
 body:List Nat
 prev:ByteArray
def inB (x lo hi:Int):Bool:=decide (lo≤x) && decide (x≤hi)
theorem num_len40 {n:Nat} (h:n≤1099511627776):(num n).length≤6:=num_pow 5 n (by omega)
end Go.Proofs.YtndlihclgdkpaaaGreatDoor
namespace Go.Proofs.YtndlihclgdkpaaaGreatDoor
open Go.RowKit
open Kit (Chg)
open Sha (v)
open Go.Proofs.YtndlihclgdkpaaaGreatDoor.One

def headE (q:List Nat):List Nat:=q.flatMap num
theorem headE_snoc (q:List Nat) (k:Nat) (h:k<q.length):headE (q.take (k+1))=headE (q.take k)++num (q.getD k 0):=by
 unfold headE
 rw [List.take_add_one,lE h,lD,lE h,List.flatMap_append]
 show _++(num q[k]++[])=_
 rw [List.append_nil]
 rfl
theorem headE_len (q:List Nat) (h: ∀x ∈ q,x≤1099511627776) (k:Nat):(headE (q.take k)).length≤6*k:=by
 induction k generalizing q with
 | zero=>simp [headE]
 | succ k ih=>
   cases q with
   | nil=>simp [headE]
   | cons x q=>
     have h1:=ih q (fun y hy=>h y (List.mem_cons_of_mem _ hy))
     have h2:=num_len40 (h x (List.mem_cons_self ..))
     unfold headE at h1 ⊢
     rw [List.take_succ_cons,List.flatMap_cons,List.length_append]
     omega
theorem WrAt.len {w:World} {g B:Nat} {bs cs:List Nat} (h:WrAt w g B bs) (e:bs=cs):WrAt w g B cs:=e ▸ h
end Go.Proofs.YtndlihclgdkpaaaGreatDoor
namespace Go.Proofs.YtndlihclgdkpaaaGreatDoor
namespace Kit
inductive TP where
 | done:TP
 | head:Nat→TP→TP
 | op1:Nat→TP→TP
 | op2:Nat→TP→Nat→TP→TP
def TP.depth:TP→Nat
 | .done=>0
 | .head _ r=>r.depth+1
 | .op1 _ r=>r.depth+1
 | .op2 _ r _ _=>r.depth+1
def TP.heads:List Nat→TP→TP
 | [],r=>r
 | i::l,r=> .head i (heads l r)
section
variable {P:Program} {md:Region.Mode} {Q:Exit→Act→World→Prop} {S:World→Prop}
def tplan (P:Program) (Q:Exit→Act→World→Prop) (S:World→Prop) (l:List Oper):TP→Act→World→Prop
 | .done,a,w=>Q .normal a w
 | .head i r,a,w=> ∃o,l[i]? =some o∧ ∃v,YieldsIf P l.toArray S o v a∧tplan P Q S l r (a.put o.dst v) w
 | .op1 i r,a,w=> ∃o,l[i]? =some o∧Region.wanted o (yielded l.toArray a.tmps)=true∧ ∀K:Act→World→Prop,(∀a w,S w→tplan P Q S l r a w→K a w)→o.wp P a w K Q
 | .op2 i r j s,a,w=>(∃o,l[i]? =some o∧Region.wanted o (yielded l.toArray a.tmps)=true∧ ∀K:Act→World→Prop,(∀a w,S w→tplan P Q S l r a w→K a w)→o.wp P a w K Q)∧
     ∃o,l[j]? =some o∧Region.wanted o (yielded l.toArray a.tmps)=true∧ ∀K:Act→World→Prop,(∀a w,S w→tplan P Q S l s a w→K a w)→o.wp P a w K Q
def tplanOk (md:Region.Mode) (ops:Array Oper):TP→Array Bool→Bool
 | .done,listed=>(Region.ready md ops listed).isEmpty
 | .head i r,listed=>Region.free md ops listed i && (Region.ready md ops listed).contains i && tplanOk md ops r (listed.setIfInBounds i true)
 | .op1 i r,listed=>decide (Region.ready md ops listed=[i]) && tplanOk md ops r (listed.setIfInBounds i true)
 | .op2 i r j s,listed=>decide (Region.ready md ops listed=[i,j]) && decide (r.depth=s.depth) && tplanOk md ops r (listed.setIfInBounds i true) && tplanOk md ops s (listed.setIfInBounds j true)
theorem any_of_tplan {l:List Oper} (hsel:Region.noSelect l.toArray=true) (hQ: ∀c a d v w,Q (.panic c) (a.put d v) w→Q (.panic c) a w):
    ∀(t:TP) (listed:Array Bool) (a:Act) (w:World),S w→tplanOk md l.toArray t listed=true→tplan P Q S l t a w→wpAnyH P md l.toArray Q S t.depth listed a w
 | .done,listed,a,w,_,hB,h=>by
   simp only [tplanOk,List.isEmpty_iff] at hB
   exact wpAnyH_done hB h 0
 | .head i r,listed,a,w,hS,hB,h=>by
   simp only [tplanOk,Bool.and_eq_true] at hB
   obtain ⟨o,ho,v,hy,hr⟩:=h
   exact wpAnyH_take (by simpa using ho) hsel hB.1.1 hB.1.2 (fun c a w=>hQ c a _ v w) hy hS (any_of_tplan hsel hQ r _ _ _ hS hB.2 hr)
 | .op1 i r,listed,a,w,hS,hB,h=>by
   simp only [tplanOk,Bool.and_eq_true,decide_eq_true_eq] at hB
   obtain ⟨o,ho,hg,hw⟩:=h
   refine wpAnyH_all hB.1 (by simp) ?_
   intro j hj
   have hji:j=i:=by simpa using hj
   subst hji
   have ho':l.toArray[j]? =some o:=by simpa using ho
   unfold wpOp
   rw [ho']
   show if Region.wanted o (yielded l.toArray a.tmps)=true then _ else _
   rw [if_pos hg]
   exact .inl (hw _ fun a w hS hc=>⟨hS,any_of_tplan hsel hQ r _ a w hS hB.2 hc⟩)
 | .op2 i r j s,listed,a,w,hS,hB,h=>by
   simp only [tplanOk,Bool.and_eq_true,decide_eq_true_eq] at hB
   obtain ⟨⟨⟨hr,hd⟩,hB1⟩,hB2⟩:=hB
   obtain ⟨⟨o,ho,hg,hw⟩,⟨o2,ho2,hg2,hw2⟩⟩:=h
   refine wpAnyH_all hr (by simp) ?_
   intro k hk
   have hki:k=i∨k=j:=by simpa using hk
   rcases hki with rfl | rfl
   ·have ho':l.toArray[k]? =some o:=by simpa using ho
    unfold wpOp
    rw [ho']
    show if Region.wanted o (yielded l.toArray a.tmps)=true then _ else _
    rw [if_pos hg]
    exact .inl (hw _ fun a w hS hc=>⟨hS,any_of_tplan hsel hQ r _ a w hS hB1 hc⟩)
   ·have ho':l.toArray[k]? =some o2:=by simpa using ho2
    unfold wpOp
    rw [ho']
    show if Region.wanted o2 (yielded l.toArray a.tmps)=true then _ else _
    rw [if_pos hg2]
    refine .inl (hw2 _ fun a w hS hc=>⟨hS,?_⟩)
    have h:=any_of_tplan hsel hQ s _ a w hS hB2 hc
    rw [← hd] at h
    exact h
theorem wp_region_tplan {id:Nat} {a:Act} {w:World} {l:List Oper} (S:World→Prop) (t:TP) (hm:P.follows .mixedOrders=true) (hsel:Region.noSelect l.toArray=true) (hn:l.length=t.depth)
    (hB:tplanOk .any l.toArray t (Array.replicate l.length false)=true) (hS:S w.drew)
    (h:tplan P (NoPanic Q) S l t a w.drew):(Code.region id l.toArray true).wp P Q a w:=by
 refine wp_region_noPanic (wp_region_held (S:=S) hm ?_)
 have H:=any_of_tplan hsel (fun _ _ _ _ _ h=>h) t _ _ _ hS hB h
 rw [← hn] at H
 have e:l.toArray.size=l.length:=List.size_toArray
 rw [e]
 exact H
theorem tplan_done {l:List Oper} {a:Act} {w:World} (h:Q .normal a w):tplan P (NoPanic Q) S l .done a w:=h
theorem tplan_head {l:List Oper} {a:Act} {w:World} {i:Nat} {rest:TP} {o:Oper} {v:Value} (ho:l[i]? =some o) (hy:YieldsIf P l.toArray S o v a) (h:tplan P Q S l rest (a.put o.dst v) w):tplan P Q S l (.head i rest) a w:=⟨o,ho,v,hy,h⟩
theorem thd {l:List Oper} {a a':Act} {w:World} {i:Nat} {rest:TP} {o:Oper} {v:Value} (ho:l[i]? =some o:=by rfl) (hy:YieldsIf P l.toArray S o v a:=by first | exact .inr ⟨by rfl,rfl⟩ | exact .inl ⟨by rfl,fun w' hS=>by (dsimp only at hS);go_simp;(try with_reducible rfl)⟩) (ha:a.put o.dst v=a':=by (try simp only [Act.put,List.setIfInBounds_toArray,List.set_cons_zero,List.set_cons_succ]);rfl) (h:tplan P Q S l rest a' w):tplan P Q S l (.head i rest) a w:=by subst ha;exact tplan_head ho hy h
theorem tplan_op1 {l:List Oper} {a:Act} {w:World} {i:Nat} {rest:TP} {o:Oper} (ho:l[i]? =some o) (hg:Region.wanted o (yielded l.toArray a.tmps)=true) (h: ∀K:Act→World→Prop,(∀a w,S w→tplan P Q S l rest a w→K a w)→o.wp P a w K Q):tplan P Q S l (.op1 i rest) a w:=⟨o,ho,hg,h⟩
theorem tplan_op2 {l:List Oper} {a:Act} {w:World} {i j:Nat} {r s:TP} (h1:tplan P Q S l (.op1 i r) a w) (h2:tplan P Q S l (.op1 j s) a w):tplan P Q S l (.op2 i r j s) a w:=⟨h1,h2⟩
end
end Kit
end Go.Proofs.YtndlihclgdkpaaaGreatDoor
namespace Go.Proofs.YtndlihclgdkpaaaGreatDoor
open Go.RowKit
open Kit (Chg)
open Sha (v)
open Go.Proofs.YtndlihclgdkpaaaGreatDoor.One

structure EV where
 e:Ent
 a:Option Addr
 c:Nat
section
variable {α:Type} {f:α→List Value} (hf: ∀x,(f x).length=6)
end
structure Hd where
 dev:Int
 seq:Int
 sum:ByteArray
 idx:Int
 ps:List ByteArray
 qs:List ByteArray
def Hd.zero:Hd:=⟨0,0,ByteArray.empty,0,[],[]⟩
structure HV where
 h:Hd
 a1:Option Addr
 c1:Nat
 a2:Option Addr
 c2:Nat
structure Frk where
 dev:Int
 l0:List Ent
 l1:List Ent
 h0:Hd
 h1:Hd
structure Lin where
 pub:ByteArray
 log:List Ent
 sealed':Nat
 head:Hd
 fork:Option Frk
end Go.Proofs.YtndlihclgdkpaaaGreatDoor
namespace Go.Proofs.YtndlihclgdkpaaaGreatDoor
namespace Kit
section
variable {P:Program} {md:Region.Mode} {Q:Exit→Act→World→Prop} {S:World→Prop}
def hplan (P:Program) (Q:Exit→Act→World→Prop) (S:World→Prop) (l:List Oper):List (Bool × Nat)→Act→World→Prop
 | [],a,w=>Q .normal a w
 | (true,i)::rest,a,w=> ∃o,l[i]? =some o∧ ∃v,YieldsIf P l.toArray S o v a∧hplan P Q S l rest (a.put o.dst v) w
 | (false,i)::rest,a,w=> ∃o,l[i]? =some o∧((Region.wanted o (yielded l.toArray a.tmps)=true∧ ∀K:Act→World→Prop,(∀a w,S w→hplan P Q S l rest a w→K a w)→o.wp P a w K Q)∨(Region.wanted o (yielded l.toArray a.tmps)=false∧hplan P Q S l rest (a.put o.dst undef) w))
def hplanOk (md:Region.Mode) (ops:Array Oper):List (Bool × Nat)→Array Bool→Bool
 | [],listed=>(Region.ready md ops listed).isEmpty
 | (true,i)::rest,listed=>Region.free md ops listed i && (Region.ready md ops listed).contains i && hplanOk md ops rest (listed.setIfInBounds i true)
 | (false,i)::rest,listed=>decide (Region.ready md ops listed=[i]) && hplanOk md ops rest (listed.setIfInBounds i true)
theorem any_of_hplan {l:List Oper} (hsel:Region.noSelect l.toArray=true) (hQ: ∀c a d v w,Q (.panic c) (a.put d v) w→Q (.panic c) a w):
    ∀(ps:List (Bool × Nat)) (listed:Array Bool) (a:Act) (w:World),S w→hplanOk md l.toArray ps listed=true→hplan P Q S l ps a w→wpAnyH P md l.toArray Q S ps.length listed a w
 | [],listed,a,w,_,hB,h=>by
   simp only [hplanOk,List.isEmpty_iff] at hB
   exact wpAnyH_done hB h 0
 | (true,i)::rest,listed,a,w,hS,hB,h=>by
   simp only [hplanOk,Bool.and_eq_true] at hB
   obtain ⟨o,ho,v,hy,hr⟩:=h
   exact wpAnyH_take (by simpa using ho) hsel hB.1.1 hB.1.2 (fun c a w=>hQ c a _ v w) hy hS (any_of_hplan hsel hQ rest _ _ _ hS hB.2 hr)
 | (false,i)::rest,listed,a,w,hS,hB,h=>by
   simp only [hplanOk,Bool.and_eq_true,decide_eq_true_eq] at hB
   obtain ⟨o,ho,hgw⟩:=h
   refine wpAnyH_all hB.1 (by simp) ?_
   intro j hj
   have hji:j=i:=by simpa using hj
   subst hji
   have ho':l.toArray[j]? =some o:=by simpa using ho
   unfold wpOp
   rw [ho']
   show if Region.wanted o (yielded l.toArray a.tmps)=true then _ else _
   rcases hgw with ⟨hg,hw⟩ | ⟨hg,hw⟩
   ·rw [if_pos hg]
    exact .inl (hw _ fun a w hS hc=>⟨hS,any_of_hplan hsel hQ rest _ a w hS hB.2 hc⟩)
   ·rw [if_neg (by rw [hg];decide)]
    exact ⟨hS,any_of_hplan hsel hQ rest _ _ _ hS hB.2 hw⟩
theorem wp_region_hplan {id:Nat} {a:Act} {w:World} {l:List Oper} (S:World→Prop) (ps:List (Bool × Nat)) (hm:P.follows .mixedOrders=true) (hsel:Region.noSelect l.toArray=true) (hn:l.length=ps.length)
    (hB:hplanOk .any l.toArray ps (Array.replicate l.length false)=true) (hS:S w.drew)
    (h:hplan P (NoPanic Q) S l ps a w.drew):(Code.region id l.toArray true).wp P Q a w:=by
 refine wp_region_noPanic (wp_region_held (S:=S) hm ?_)
 have H:=any_of_hplan hsel (fun _ _ _ _ _ h=>h) ps _ _ _ hS hB h
 rw [← hn] at H
 have e:l.toArray.size=l.length:=List.size_toArray
 rw [e]
 exact H
theorem hplan_done {l:List Oper} {a:Act} {w:World} (h:Q .normal a w):hplan P (NoPanic Q) S l [] a w:=h
theorem hplan_head {l:List Oper} {a:Act} {w:World} {i:Nat} {rest:List (Bool × Nat)} {o:Oper} {v:Value} (ho:l[i]? =some o) (hy:YieldsIf P l.toArray S o v a) (h:hplan P Q S l rest (a.put o.dst v) w):hplan P Q S l ((true,i)::rest) a w:=⟨o,ho,v,hy,h⟩
theorem hhd {l:List Oper} {a a':Act} {w:World} {i:Nat} {rest:List (Bool × Nat)} {o:Oper} {v:Value} (ho:l[i]? =some o:=by rfl) (hy:YieldsIf P l.toArray S o v a:=by first | exact .inr ⟨by rfl,rfl⟩ | exact .inl ⟨by rfl,fun w' hS=>by (dsimp only at hS);go_simp;(try with_reducible rfl)⟩) (ha:a.put o.dst v=a':=by (try simp only [Act.put,List.setIfInBounds_toArray,List.set_cons_zero,List.set_cons_succ]);rfl) (h:hplan P Q S l rest a' w):hplan P Q S l ((true,i)::rest) a w:=by subst ha;exact hplan_head ho hy h
theorem hplan_op {l:List Oper} {a:Act} {w:World} {i:Nat} {rest:List (Bool × Nat)} {o:Oper} (ho:l[i]? =some o) (hg:Region.wanted o (yielded l.toArray a.tmps)=true) (h: ∀K:Act→World→Prop,(∀a w,S w→hplan P Q S l rest a w→K a w)→o.wp P a w K Q):hplan P Q S l ((false,i)::rest) a w:=⟨o,ho,.inl ⟨hg,h⟩⟩
theorem hplan_skip {l:List Oper} {a:Act} {w:World} {i:Nat} {rest:List (Bool × Nat)} {o:Oper} (ho:l[i]? =some o) (hg:Region.wanted o (yielded l.toArray a.tmps)=false) (h:hplan P Q S l rest (a.put o.dst undef) w):hplan P Q S l ((false,i)::rest) a w:=⟨o,ho,.inr ⟨hg,h⟩⟩
theorem hdn {l:List Oper} {a a':Act} {w:World} (ha:a=a':=by (try simp only [Act.put,List.setIfInBounds_toArray,List.set_cons_zero,List.set_cons_succ]);rfl) (h:Q .normal a' w):hplan P (NoPanic Q) S l [] a w:=by subst ha;exact hplan_done h
theorem hsk {l:List Oper} {a a':Act} {w:World} {i:Nat} {rest:List (Bool × Nat)} {o:Oper} (ho:l[i]? =some o:=by rfl) (hg:Region.wanted o (yielded l.toArray a.tmps)=false:=by rfl) (ha:a.put o.dst undef=a':=by (try simp only [Act.put,List.setIfInBounds_toArray,List.set_cons_zero,List.set_cons_succ]);rfl) (h:hplan P Q S l rest a' w):hplan P Q S l ((false,i)::rest) a w:=by subst ha;exact hplan_skip ho hg h
end
end Kit
namespace Kit
section
variable {P:Program} {md:Region.Mode} {Q:Exit→Act→World→Prop} {S:World→Prop} {L:Nat}
def lplan (P:Program) (Q:Exit→Act→World→Prop) (S:World→Prop) (L:Nat) (l:List Oper):List (Bool × Nat)→Act→World→Prop
 | [],a,w=>Q .normal a w
 | (true,i)::rest,a,w=> ∃o,l[i]? =some o∧ ∃v,YieldsIf P l.toArray S o v a∧lplan P Q S L l rest (a.put o.dst v) w
 | (false,i)::rest,a,w=> ∃o,l[i]? =some o∧((Region.wanted o (yielded l.toArray a.tmps)=true∧ ∀K:Act→World→Prop,(∀a w,(i≠L→S w)→lplan P Q S L l rest a w→K a w)→o.wp P a w K Q)∨(Region.wanted o (yielded l.toArray a.tmps)=false∧lplan P Q S L l rest (a.put o.dst undef) w))
def lplanOk (md:Region.Mode) (ops:Array Oper) (L:Nat):List (Bool × Nat)→Array Bool→Bool
 | [],listed=>(Region.ready md ops listed).isEmpty
 | (true,i)::rest,listed=>Region.free md ops listed i && (Region.ready md ops listed).contains i && Region.waitsFor md ops L i && decide (i≠L) && lplanOk md ops L rest (listed.setIfInBounds i true)
 | (false,i)::rest,listed=>decide (Region.ready md ops listed=[i]) && (decide (i≠L) || rest.isEmpty) && lplanOk md ops L rest (listed.setIfInBounds i true)
theorem anyS_of_lplan {l:List Oper} (hsel:Region.noSelect l.toArray=true) (hQ: ∀c a d v w,Q (.panic c) (a.put d v) w→Q (.panic c) a w):
    ∀(ps:List (Bool × Nat)) (listed:Array Bool) (a:Act) (w:World),(ps≠[]→S w)→lplanOk md l.toArray L ps listed=true→lplan P Q S L l ps a w→anyS P md l.toArray Q S L ps.length listed a w
 | [],listed,a,w,_,hB,h=>by
   simp only [lplanOk,List.isEmpty_iff] at hB
   exact ⟨hB,h⟩
 | (true,i)::rest,listed,a,w,hS,hB,h=>by
   simp only [lplanOk,Bool.and_eq_true,decide_eq_true_eq] at hB
   obtain ⟨o,ho,v,hy,hr⟩:=h
   have hS':=hS (by simp)
   have ho':l.toArray[i]? =some o:=by simpa using ho
   exact anyS_first ho' (Region.noSelect_spec hsel) (fun c a w=>hQ c a _ v w) hB.1.1.2 hB.1.2 _ _ _ _ (Region.free_spec ho' hB.1.1.1.1) (by simpa using hB.1.1.1.2) hy hS' (anyS_of_lplan hsel hQ rest _ _ _ (fun _=>hS') hB.2 hr)
 | (false,i)::rest,listed,a,w,hS,hB,h=>by
   simp only [lplanOk,Bool.and_eq_true,Bool.or_eq_true,decide_eq_true_eq,List.isEmpty_iff] at hB
   obtain ⟨o,ho,hgw⟩:=h
   refine ⟨fun h0=>(by rw [hB.1.1] at h0;cases h0),fun j hj=> ?_⟩
   rw [hB.1.1] at hj
   have hji:j=i:=by simpa using hj
   subst hji
   have ho':l.toArray[j]? =some o:=by simpa using ho
   unfold wpOp
   rw [ho']
   show if Region.wanted o (yielded l.toArray a.tmps)=true then _ else _
   rcases hgw with ⟨hg,hw⟩ | ⟨hg,hw⟩
   ·rw [if_pos hg]
    exact .inl (hw _ fun a w hS2 hc=>⟨hS2,anyS_of_lplan hsel hQ rest _ a w (fun hne=>hS2 (hB.1.2.resolve_right hne)) hB.2 hc⟩)
   ·rw [if_neg (by rw [hg];decide)]
    exact ⟨fun _=>hS (by simp),anyS_of_lplan hsel hQ rest _ _ _ (fun _=>hS (by simp)) hB.2 hw⟩
theorem wp_region_lplan {id:Nat} {a:Act} {w:World} {l:List Oper} (S:World→Prop) (L:Nat) (ps:List (Bool × Nat)) (hm:P.follows .mixedOrders=true) (hsel:Region.noSelect l.toArray=true) (hn:l.length=ps.length)
    (hB:lplanOk .any l.toArray L ps (Array.replicate l.length false)=true) (hS:S w.drew)
    (h:lplan P (NoPanic Q) S L l ps a w.drew):(Code.region id l.toArray true).wp P Q a w:=by
 refine wp_region_noPanic (wp_region_any hm (any_of_anyS _ _ _ _ (S:=S) (L:=L) ?_))
 have H:=anyS_of_lplan (md:= .any) (L:=L) hsel (fun _ _ _ _ _ h=>h) ps _ _ _ (fun _=>hS) hB h
 rw [← hn] at H
 have e:l.toArray.size=l.length:=List.size_toArray
 rw [e]
 exact H
theorem lplan_done {l:List Oper} {a:Act} {w:World} (h:Q .normal a w):lplan P (NoPanic Q) S L l [] a w:=h
theorem lplan_head {l:List Oper} {a:Act} {w:World} {i:Nat} {rest:List (Bool × Nat)} {o:Oper} {v:Value} (ho:l[i]? =some o) (hy:YieldsIf P l.toArray S o v a) (h:lplan P Q S L l rest (a.put o.dst v) w):lplan P Q S L l ((true,i)::rest) a w:=⟨o,ho,v,hy,h⟩
theorem lplan_op {l:List Oper} {a:Act} {w:World} {i:Nat} {rest:List (Bool × Nat)} {o:Oper} (ho:l[i]? =some o) (hg:Region.wanted o (yielded l.toArray a.tmps)=true) (h: ∀K:Act→World→Prop,(∀a w,S w→lplan P Q S L l rest a w→K a w)→o.wp P a w K Q) (hi:i≠L):lplan P Q S L l ((false,i)::rest) a w:=⟨o,ho,.inl ⟨hg,fun K hK=>h K fun a w hS hl=>hK a w (fun _=>hS) hl⟩⟩
theorem lplan_last {l:List Oper} {a:Act} {w:World} {o:Oper} (ho:l[L]? =some o) (hg:Region.wanted o (yielded l.toArray a.tmps)=true) (h: ∀K:Act→World→Prop,(∀a w,lplan P Q S L l [] a w→K a w)→o.wp P a w K Q):lplan P Q S L l [(false,L)] a w:=⟨o,ho,.inl ⟨hg,fun K hK=>h K fun a w hl=>hK a w (fun hn=>absurd rfl hn) hl⟩⟩
theorem ldn {l:List Oper} {a a':Act} {w:World} (ha:a=a':=by (try simp only [Act.put,List.setIfInBounds_toArray,List.set_cons_zero,List.set_cons_succ]);rfl) (h:Q .normal a' w):lplan P (NoPanic Q) S L l [] a w:=by subst ha;exact lplan_done h
theorem lhd {l:List Oper} {a a':Act} {w:World} {i:Nat} {rest:List (Bool × Nat)} {o:Oper} {v:Value} (ho:l[i]? =some o:=by rfl) (hy:YieldsIf P l.toArray S o v a:=by first | exact .inr ⟨by rfl,rfl⟩ | exact .inl ⟨by rfl,fun w' hS=>by (dsimp only at hS);go_simp;(try with_reducible rfl)⟩) (ha:a.put o.dst v=a':=by (try simp only [Act.put,List.setIfInBounds_toArray,List.set_cons_zero,List.set_cons_succ]);rfl) (h:lplan P Q S L l rest a' w):lplan P Q S L l ((true,i)::rest) a w:=by subst ha;exact lplan_head ho hy h
end
end Kit
end Go.Proofs.YtndlihclgdkpaaaGreatDoor
namespace Go.Proofs.YtndlihclgdkpaaaGreatDoor
open Go.RowKit
open Kit (Chg)
open Sha (v)
open Go.Proofs.YtndlihclgdkpaaaGreatDoor.One
theorem strs_none {w:World} {ss:List ByteArray} (h:StrsAt w none ss):ss=[]:=by
 rcases h with e | ⟨b,o,e,_⟩
 ·exact e
 ·cases e
section
variable {ops:Array Oper} {rest:List Oper} {o:Oper} {a:Act} {Q:Exit→Act→World→Prop}
theorem app_strs {w0:World} (hgd:o.guard=none) (s x:Operand) (ho:o.op= .call { callee:= .builtin .append,args:= #[s,x],argTypes:= #[43, 43] })
    (base:Nat) (v:Value) (L:Nat) (cur:List ByteArray) (hs:a.eval s=v) (hown:w0.ownsRow base 9 1 v L (strV cur)) (hb:base≤w0.heap.size) (hL:L≤1000000000)
    (ao:Option Addr) (m c:Nat) (xs:List ByteArray) (hm:xs.length=m) (hm2:m≤1000000000) (hx:a.eval x= .slice ao m c) (hB:StrsAt w0 ao xs) (hnil:ao=none→c=0)
    (h: ∀v' w',w'.ownsRow base 9 1 v' (L+m) (strV (cur++xs))→w0.grownBy w' v.ownBlock→wpList Tryz.prog ops Q rest (a.put o.dst v') w'):wpList Tryz.prog ops Q (o::rest) a w0:=by
 obtain ⟨i0,hi,hz0,hz1,hz2⟩:=info_parts Tryz.info9
 subst hm
 refine wpList_append_src hgd s x 43 ho base 9 i0 (.string ByteArray.empty) 1 16 Tryz.underlying43 hi hz0 hz1 hz2 rfl (by decide) v L (strV cur) hs hown ao xs.length c (strV xs) hx ?_ (strV_one _) (by unfold maxLen;omega) (by omega) hb ?_
 ·rcases hB with e | ⟨b,o',e,hcell⟩
  ·subst e
   cases ao with
   | none=>exact .inl ⟨rfl,rfl,hnil rfl,rfl⟩
   | some ad=>exact .inr ⟨rfl,ad,rfl,fun j u hu=>by simp [strV] at hu⟩
  ·subst e
   refine .inr ⟨by rw [strV_length,Nat.mul_one],_,rfl,fun j u hu=> ?_⟩
   have hj:j<xs.length:=by
    have:=(List.getElem?_eq_some_iff.1 hu).1
    rwa [strV_length] at this
   rw [add_none,hcell j hj,← hu,strV_get _ _ hj]
 intro v' w4 hown4 hgr4
 exact h v' w4 (by rw [show strV (cur++xs)=strV cur++strV xs by simp [strV]];exact hown4) hgr4
end
theorem own_none0 (w:World) (T:TypeId) (k:Nat):(w.alloc (.cells #[] T)).ownsRow w.heap.size T k (.slice (some ⟨w.heap.size,0,none⟩) 0 0) 0 []:=⟨by simp,.inr ⟨w.heap.size,0,#[],rfl,Nat.le_refl _,heap_alloc_new w _,Nat.le_refl _,by decide,by simp,by simp⟩⟩
theorem grown_below {w w':World} {base e size n:Nat} {v:Value} {xs:List Value} (hown:w.ownsRow base e size v n xs) (hb:base≤w.heap.size) (hg:w.grownBy w' v.ownBlock):Below base w w':=
 (Chg.of_grown hg (fun q _ e=>(hown.lt q e).1):Chg (fun q _=>base≤q) w w').below hb (fun q i hq h=>by omega)
theorem cloneStrs_any (a:Option Addr) (n c:Nat) (ss:List ByteArray) (hn:ss.length=n) (hl:n≤100000000) (w:World) (hB:StrsAt w a ss):Calls Tryz.prog 189 #[.slice a n c] w fun e w'=> ∃a' c',e= .returned (.slice a' n c')∧(a'=none→c'=0)∧StrsAt w' a' ss∧(∀ad,a'=some ad→w.heap.size≤ad.block)∧Below w.heap.size w w':=by
 have hq: ∀(w:World) (a:Option Addr) (n c n' c':Nat),(binOp .eql 43 (.slice a n c) (.slice none n' c')).run Tryz.prog w= .ok (.bool a.isNone) w:=fun w a n c n' c'=>Lib.run_eql_slice_nil w _ _ a n c n' c' Tryz.underlying43
 cases a with
 | none=>
   have hz:=strs_none hB
   subst hz
   obtain rfl:n=0:=by simpa using hn.symm
   go_enter Tryz.func189,Tryz.ntmps189
   go_wp2
   go_ret
   exact ⟨none,0,rfl,fun _=>rfl,.inl rfl,by simp,Below.refl _ _⟩
 | some ad=>
   have HNL:=hid hn
   have HBA:=hid (hB.later ((Below.refl w.heap.size w).alloc (Nat.le_refl _) (.cells #[] 9)))
   have HW1:Hid (w.heap.size≤(w.alloc (.cells #[] 9)).heap.size):=hid (by simp)
   have HE:=hid (own_none0 w 9 1)
   have HBW:Hid (Below w.heap.size w (w.alloc (.cells #[] 9))):=hid ((Below.refl _ _).alloc (Nat.le_refl _) _)
   clear hB hn
   go_enter Tryz.func189,Tryz.ntmps189
   go_wp2_with (first
    | (at_builtin
       refine app_strs rfl _ _ rfl w.heap.size _ 0 [] (by rfl) HE.o HW1.o (by decide) (some ad) n c ss HNL.o (by omega) (by rfl) HBA.o (fun e=>by cases e) ?_
       intro v3 w3 ho3 h3
       have HO3:=hid ho3
       have H3:=hid (HBW.o.trans (grown_below HE.o HW1.o h3))
       clear ho3 h3))
   have ho3:=HO3.o
   rw [List.nil_append,Nat.zero_add] at ho3
   obtain ⟨a3,cp3,rfl,hl3,hcp3,hB3,hnil3,hlt3⟩:=strs_of_own ho3
   go_ret
   exact ⟨a3,cp3,rfl,hnil3,hB3,fun ad e=>(hlt3 ad e).1,H3.o⟩
end Go.Proofs.YtndlihclgdkpaaaGreatDoor
namespace Go.Proofs.YtndlihclgdkpaaaGreatDoor
open Go.Proofs.YtndlihclgdkpaaaGreatDoor.One

def headB:List Nat:=[104,101,97,100]
def headIn (d q:Nat) (s:List Nat):List Nat:=num 4++headB++num d++num q++s
def headDg (d q:Nat) (s:List Nat):List Nat:=Sha.sum (headIn d q s)
def HeadOk (h:Hd):Prop:=0≤h.dev∧h.dev≤11∧1≤h.seq∧h.seq≤1099511627776∧h.sum.size=32
instance (h:Hd):Decidable (HeadOk h):=by unfold HeadOk;infer_instance
def SignedH (B H:Int) (pk:List Nat) (h:Hd):Prop:=HeadOk h∧SigAcc B H pk (headDg h.dev.toNat h.seq.toNat (nb h.sum)) h.idx (h.ps.map nb) (h.qs.map nb)
instance (B H:Int) (pk:List Nat) (h:Hd):Decidable (SignedH B H pk h):=by unfold SignedH;infer_instance
end Go.Proofs.YtndlihclgdkpaaaGreatDoor
namespace Go.Proofs.YtndlihclgdkpaaaGreatDoor
open Go.RowKit
open Kit (Chg)
open Sha (v)
open Go.Maps
open Go.WideMaps
open Go.Proofs.YtndlihclgdkpaaaGreatDoor.One
def rv (v:Value):Option (DataW Value × List MemPlace):=some (.held v,[])
end Go.Proofs.YtndlihclgdkpaaaGreatDoor
namespace Go.Proofs.YtndlihclgdkpaaaGreatDoor
open Go.RowKit
open Kit (Chg)
open Sha (v)
open Go.Proofs.YtndlihclgdkpaaaGreatDoor.One
theorem own_some {w:World} {base e size n:Nat} {v:Value} {xs:List Value} (h:w.ownsRow base e size v n xs) (hn:0<n): ∃bl cap,v= .slice (some ⟨bl,0,none⟩) n cap:=by
 rcases h.2 with ⟨_,h0⟩ | ⟨g,cap,cur,e,_⟩
 ·omega
 ·exact ⟨g,cap,e⟩
def hvZero:HV:=⟨Hd.zero,none,0,none,0⟩
theorem Laid.low {w w':World} {N:Nat} (h:Laid w) (hb:Below N w w') (hN:3≤N):Laid w':=
 ⟨fun t ht=>(hb.cell (p:=⟨2,t,none⟩) (Nat.lt_of_lt_of_le (by show 2 <3;decide) hN)).trans (h.kon t ht),fun i hi=>(hb.cell (p:=⟨0,0+i,none⟩) (Nat.lt_of_lt_of_le (by show 0 <3;decide) hN)).trans (h.init i hi),(hb.cell (p:=⟨1,0,none⟩) (Nat.lt_of_lt_of_le (by decide) hN)).trans h.pad0,(hb.cell (p:=⟨1,1,none⟩) (Nat.lt_of_lt_of_le (by decide) hN)).trans h.pad1⟩
end Go.Proofs.YtndlihclgdkpaaaGreatDoor
