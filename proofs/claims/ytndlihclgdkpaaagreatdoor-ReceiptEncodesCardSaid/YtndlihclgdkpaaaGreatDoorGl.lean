/- Texts Rfq, Rgq, Qrv, merged. -/
import Derived.Laws.MakeOwn
import Derived.Maps.AppendAt
import Derived.Lib.AppendStr
import Derived.Test.YtndlihclgdkpaaaGreatDoorGc
import Derived.Test.YtndlihclgdkpaaaGreatDoorGd
import Derived.Test.YtndlihclgdkpaaaGreatDoorGg
import Derived.Test.YtndlihclgdkpaaaGreatDoorGh
import Derived.Test.YtndlihclgdkpaaaGreatDoorGi
import Derived.Test.YtndlihclgdkpaaaGreatDoorGj
/- The document's Encode of a list of values. -/
set_option linter.unusedVariables false
set_option linter.unusedSimpArgs false
open Go.Lib (hid)
set_option maxRecDepth 100000
namespace Go.Proofs.YtndlihclgdkpaaaGreatDoor
open Go.RowKit
open Kit (Chg)
open Sha (v)
open Go.Proofs.YtndlihclgdkpaaaGreatDoor.One

section
variable {a:Act} {Q:Exit→Act→World→Prop} {K:Act→World→Prop} {o:Oper}
theorem wp_app_bytes {w0:World} (s x:Operand) (ho:o.op= .call { callee:= .builtin .append,args:= #[s,x],argTypes:= #[52, 52] })
    (base:Nat) (v:Value) (L:Nat) (cur:List Nat) (hs:a.eval s=v) (hown:w0.ownsRow base 5 1 v L (bvals cur)) (hb:base≤w0.heap.size) (hL:L≤1000000000)
    (ao:Option Addr) (m c:Nat) (xs:List Nat) (hm:xs.length=m) (hm0:0<m) (hm2:m≤1000000000) (hx:a.eval x= .slice ao m c) (hB:BytesAt w0 ao xs)
    (h: ∀v' w',w'.ownsRow base 5 1 v' (L+m) (bvals (cur++xs))→Below base w0 w'→w0.grownBy w' v.ownBlock→K (a.put o.dst v') w'):o.wp Tryz.prog a w0 K Q:=by
 obtain ⟨i0,hi,hz0,hz1,hz2⟩:=info_parts Tryz.info5
 subst hm
 rcases hB.1 with e | ⟨b,of,e,hc⟩
 ·rw [e] at hm0;simp at hm0
 ·subst e
  have hn: ∀j u,(bvals xs)[j]? =some u→w0.cell? ((⟨b,of,none⟩:Addr).add j)=some u:=fun j u hj=>by
   have hlt:j<xs.length:=by
    have:=(List.getElem?_eq_some_iff.1 hj).1
    simpa [bvals] using this
   rw [add_none,hc j hlt,← hj]
   unfold bvals
   rw [List.getElem?_map,lE hlt,lD,lE hlt]
   rfl
  obtain ⟨v',w',hr,h2,h3,_,_⟩:=run_append_own_at (P:= Tryz.prog) w0 base 52 o.type 5 i0 (.int .u8 0) 1 1 Tryz.underlying52 hi hz0 hz1 hz2 rfl (by decide) v L (bvals cur) hown ⟨b,of,none⟩ xs.length c (bvals xs) (by simp [bvals]) hn (bvals_one _) (by unfold maxLen;omega) (by omega) hb
  unfold Oper.wp execOp
  simp only [ho,resolve,invoke,builtin,Sem.run_bind,Sem.run_pure,Result.andThen_ok,List.map_toArray,List.map_cons,List.map_nil,hs,hx,hr]
  exact h v' w' (by rw [bvals_append];exact h2) ((Chg.of_grown h3 (fun q _ e=>(hown.lt q e).1):Chg (fun q _=>base≤q) w0 w').below hb (fun q i hq h=>by omega)) h3
theorem wp_app_txt {w0:World} (s x:Operand) (ho:o.op= .call { callee:= .builtin .append,args:= #[s,x],argTypes:= #[52,9] })
    (base:Nat) (v:Value) (L:Nat) (cur:List Nat) (hs:a.eval s=v) (hown:w0.ownsRow base 5 1 v L (bvals cur)) (hb:base≤w0.heap.size) (hL:L≤1000000000)
    (str:ByteArray) (m:Nat) (hm:str.size=m) (hm2:m≤1000000000) (hx:a.eval x= .string str)
    (h: ∀v' w',w'.ownsRow base 5 1 v' (L+m) (bvals (cur++nb str))→Below base w0 w'→w0.grownBy w' v.ownBlock→K (a.put o.dst v') w'):o.wp Tryz.prog a w0 K Q:=by
 obtain ⟨i0,hi,hz0,hz1,hz2⟩:=info_parts Tryz.info5
 subst hm
 obtain ⟨v',w',hr,h2,h3,_⟩:=Go.Lib.run_append_own_string (P:= Tryz.prog) (w:=w0) base 52 9 o.type 5 i0 Tryz.underlying52 Tryz.underlying9 hi hz0 hz1 hz2 v L (bvals cur) hown str (by unfold maxLen;omega) (by omega) hb
 rw [strCells_bvals] at h2
 unfold Oper.wp execOp
 simp only [ho,resolve,invoke,builtin,Sem.run_bind,Sem.run_pure,Result.andThen_ok,List.map_toArray,List.map_cons,List.map_nil,hs,hx,hr]
 exact h v' w' (by rw [bvals_append];exact h2) ((Chg.of_grown h3 (fun q _ e=>(hown.lt q e).1):Chg (fun q _=>base≤q) w0 w').below hb (fun q i hq h=>by omega)) h3
end
theorem own_ne {w:World} {base n b:Nat} {v:Value} {xs:List Value} {row:Array Value} {T:TypeId} (h:w.ownsRow base 5 1 v n xs) (hg:w.heap[b]? =some (.cells row T (0,0))) (hT:T≠5): ∀q,v.ownBlock=some q→q≠b:=by
 intro q hq e
 subst e
 rcases h.2 with ⟨rfl,_⟩ | ⟨g,cap,cur,rfl,_,hr,_⟩
 ·cases hq
 ·cases hq
  rw [hr] at hg
  cases hg
  exact hT rfl
inductive RV where
 | uint (n:Nat)
 | bytes (s:ByteArray)
 | text (s:ByteArray)
 | sum (s:ByteArray)
 | count (n:Nat)
def RV.cells:RV→List Value
 | .uint n=>[.int .i64 1,.int .u64 (n:Int),.int .i64 0,.bool false,.string { data:= #[] },.int .i64 0]
 | .bytes s=>[.int .i64 4,.int .u64 0,.int .i64 0,.bool false,.string s,.int .i64 0]
 | .text s=>[.int .i64 5,.int .u64 0,.int .i64 0,.bool false,.string s,.int .i64 0]
 | .sum s=>[.int .i64 6,.int .u64 0,.int .i64 0,.bool false,.string s,.int .i64 0]
 | .count n=>[.int .i64 7,.int .u64 0,.int .i64 (n:Int),.bool false,.string { data:= #[] },.int .i64 0]
def RV.enc:RV→List Nat
 | .uint n=>num n
 | .bytes s=>num s.size++nb s
 | .text s=>num s.size++nb s
 | .sum s=>nb s
 | .count n=>num n
def RV.ok:RV→Prop
 | .uint n=>n<18446744073709551616
 | .bytes s=>s.size≤1000000
 | .text s=>s.size≤1000000
 | .sum s=>s.size=32
 | .count n=>n<9223372036854775808
theorem RV.len6 (x:RV):x.cells.length=6:=by cases x<;> rfl
theorem RV.enc_lt (x:RV): ∀y ∈ x.enc,y<256:=by
 cases x with
 | uint n=>exact num_lt n
 | bytes s=>exact app_lt (num_lt _) (nb_lt s)
 | text s=>exact app_lt (num_lt _) (nb_lt s)
 | sum s=>exact nb_lt s
 | count n=>exact num_lt n
def VsAt (w:World) (a:Option Addr) (l:List RV):Prop:=l=[]∨ ∃b o,a=some ⟨b,o,none⟩∧ ∀i,(h:i<l.length)→ ∀j u,(l[i]).cells[j]? =some u→w.cell? ⟨b,o+i*6+j,none⟩=some u
theorem VsAt.later {w w':World} {a:Option Addr} {l:List RV} (h:VsAt w a l) (hb:Below w.heap.size w w'):VsAt w' a l:=by
 rcases h with h | ⟨b,o,e,hc⟩
 ·exact .inl h
 ·exact .inr ⟨b,o,e,fun i hi j u hj=>(hb.cell (World.block_lt_of_cell? w _ (hc i hi j u hj))).trans (hc i hi j u hj)⟩
def refEncT (l:List RV) (k:Nat):List Nat:=(l.take k).flatMap RV.enc
theorem refEncT_succ (l:List RV) (k:Nat) (h:k<l.length):refEncT l (k+1)=refEncT l k++(l[k]).enc:=by
 unfold refEncT
 rw [List.take_add_one,lE h,List.flatMap_append]
 show _++((l[k]).enc++[])=_
 rw [List.append_nil]
theorem refEncT_all (l:List RV) (k:Nat) (h:l.length≤k):refEncT l k=l.flatMap RV.enc:=by unfold refEncT;rw [List.take_of_length_le h]
theorem refEncT_le (l:List RV) (k:Nat):(refEncT l k).length≤(l.flatMap RV.enc).length:=by
 have h:refEncT l k++(l.drop k).flatMap RV.enc=l.flatMap RV.enc:=by unfold refEncT;rw [← List.flatMap_append,List.take_append_drop]
 rw [← h,List.length_append]
 omega
theorem refEncT_lt (l:List RV) (k:Nat): ∀x ∈ refEncT l k,x<256:=by
 intro x hx
 unfold refEncT at hx
 obtain ⟨y,_,hy⟩:=List.mem_flatMap.1 hx
 exact y.enc_lt x hy
theorem VsAt.six {w:World} {b o k:Nat} {l:List RV} (h: ∀i,(h:i<l.length)→ ∀j u,(l[i]).cells[j]? =some u→w.cell? ⟨b,o+i*6+j,none⟩=some u) (hk:k<l.length) {x0 x1 x2 x3 x4 x5:Value} (hx:(l[k]).cells=[x0,x1,x2,x3,x4,x5]):w.cell? ⟨b,o+k*6,none⟩=some x0∧w.cell? ⟨b,o+k*6+1,none⟩=some x1∧w.cell? ⟨b,o+k*6+2,none⟩=some x2∧w.cell? ⟨b,o+k*6+3,none⟩=some x3∧w.cell? ⟨b,o+k*6+4,none⟩=some x4∧w.cell? ⟨b,o+k*6+5,none⟩=some x5:=by
 have h1:=h k hk
 rw [hx] at h1
 exact ⟨h1 0 _ rfl,h1 1 _ rfl,h1 2 _ rfl,h1 3 _ rfl,h1 4 _ rfl,h1 5 _ rfl⟩
set_option maxHeartbeats 1000000 in
theorem refEncode_any (av:Option Addr) (cv n:Nat) (l:List RV) (hn:l.length=n) (h12:n≤1000) (hok: ∀x ∈ l,x.ok) (T:List Nat) (hT:l.flatMap RV.enc=T) (hTL:T.length≤1048576) (w:World) (hV:VsAt w av l):
    Calls Tryz.prog 127 #[.slice av n cv] w fun e w'=> ∃ad L cap,e= .returned (.tuple #[.slice ad L cap,.int .i64 0])∧T.length=L∧L≤cap∧BytesAt w' ad T∧(ad=none→cap=0)∧Below w.heap.size w w':=by
 have HV:=hid hV
 have HNL:=hid hn
 have HOK:=hid hok
 have HTE:=hid hT
 have HTL:=hid hTL
 clear hV hn hok hT hTL
 go_enter Tryz.func127,Tryz.ntmps127
 go_upto_region 2 with fail
 obtain ⟨N,hN⟩:=ex_eq w.heap.size
 have HN:=hid hN
 refine wp_over (fun W=>Hid (W.ownsRow N 5 1 (.slice (some ⟨w.heap.size,0,none⟩) 0 0) 0 (bvals []))∧Hid (Below N w W)) ⟨own_empty (by omega),(Below.refl _ _).alloc (by omega) _⟩ ?_
 rintro W ⟨HOW0,HB0⟩
 rw [hN] at HOW0 ⊢
 clear hN
 go_upto_region 3 with fail
 go_loopw [5,4] (fun z v wr=> ∃k L:Nat,k≤n∧z= .int .i64 (k:Int)∧Hid (wr.ownsRow N 5 1 v L (bvals (refEncT l k)))∧Hid ((refEncT l k).length=L)∧Hid (Below N w wr)) (fun z _ _=>n - (intOf z).toNat)
 case atStart=>exact ⟨0,0,by omega,rfl,HOW0.o,hid rfl,HB0.o⟩
 case round=>
  obtain ⟨k,L,hk,rfl,HO,HLL,HBE⟩:=hrel
  have HSZ:Hid (N≤wr.heap.size):=hid (by have:=HBE.o.size;have:=HN.o;omega)
  by_cases hlt:k<n
  ·have hki:(k:Int)<(n:Int):=by omega
   have HKL:Hid (k<l.length):=hid (by rw [HNL.o];exact hlt)
   obtain ⟨b0,o0,rfl,hcs⟩: ∃b o,av=some ⟨b,o,none⟩∧ ∀i,(h:i<l.length)→ ∀j u,(l[i]).cells[j]? =some u→wr.cell? ⟨b,o+i*6+j,none⟩=some u:=by
    rcases HV.o.later (by rw [HN.o];exact HBE.o) with h | h
    ·have:=HNL.o;rw [h] at this;simp at this;omega
    ·exact h
   have HSX:=hid (fun x0 x1 x2 x3 x4 x5 hx=>VsAt.six (x0:=x0) (x1:=x1) (x2:=x2) (x3:=x3) (x4:=x4) (x5:=x5) hcs HKL.o hx)
   have HSU:=hid (refEncT_succ l k HKL.o)
   have HLT:=hid (refEncT_lt l k)
   have HL1:Hid ((refEncT l (k+1)).length≤1048576):=hid (Nat.le_trans (refEncT_le l (k+1)) (by rw [HTE.o];exact HTL.o))
   have HOX:=hid (HOK.o _ (List.getElem_mem HKL.o))
   clear hcs
   obtain ⟨x,hx⟩:=ex_eq (l[k]'HKL.o)
   have HXX:Hid (l[k]'HKL.o=x):=hid hx
   rw [hx] at HSU HOX
   clear hx
   have HLB:Hid (L≤1048576):=hid (by have h1:=HL1.o;rw [HSU.o,List.length_append,HLL.o] at h1;omega)
   rcases x with d | s | s | s | d
   ·have HDD:Hid (d<18446744073709551616):=hid HOX.o
    obtain ⟨c0,c1,c2,c3,c4,c5⟩:=HSX.o (.int .i64 1) (.int .u64 (d:Int)) (.int .i64 0) (.bool false) (.string { data:= #[] }) (.int .i64 0) (by rw [HXX.o];rfl)
    go_upto_region 6 with fail
    refine wp_over (fun V=>Hid (V.heap[wr.heap.size]? =some (.cells #[.int .i64 1,.int .u64 (d:Int),.int .i64 0,.bool false,.string { data:= #[] },.int .i64 0] 187 (0,0)))∧Hid (V.heap.size=wr.heap.size+1)∧Hid (Below wr.heap.size wr V)∧Hid (V.ownsRow N 5 1 u4 L (bvals (refEncT l k)))) ⟨heap_alloc_new _ _,by show _=_;simp,(Below.refl _ _).alloc (Nat.le_refl _) _,HO.o.alloc _⟩ ?_
    rintro W2 ⟨HG2,HZ2,HB2,HO2⟩
    clear c0 c1 c2 c3 c4 c5
    obtain ⟨c0,c1,c2,c3,c4,c5⟩:=row6 HG2.o
    obtain ⟨N2,hN2⟩:=ex_eq wr.heap.size
    rw [hN2] at HG2 HZ2 HB2 c0 c1 c2 c3 c4 c5 ⊢
    have HN2:=hid hN2
    clear hN2
    go_wp2_with (first
     | (go_at_call 213
        (with_reducible refine (refNumber_any d HDD.o _).mono ?_)
        rintro e w3 ⟨v3,m3,rfl,hm3,ho3,h3⟩
        have hm10:=num_len10 HDD.o
        obtain ⟨a3,p3,rfl,hl3,_,hb3,hn3,_⟩:=own_bytes ho3 (num_lt d) (by unfold maxLen;omega)
        have HM10:Hid (m3≤10):=hid (by rw [hm3];exact hm10)
        have HM3:Hid ((num d).length=m3):=hid hm3.symm
        have HB3:=hid hb3
        have HA3:=hid hn3
        clear hm3 ho3 hm10 hl3 hb3 hn3
        have H3:Hid (Below wr.heap.size wr w3):=hid (by rw [HN2.o];exact HB2.o.trans (h3.mono (by have:=HZ2.o;omega)))
        have HO3:Hid (w3.ownsRow N 5 1 u4 L (bvals (refEncT l k))):=hid (ownsRow_keepM HO.o (Chg.of_below H3.o:Chg (fun _ _=>False) wr w3) (fun q hq i e=>e))
        have HS3:Hid (N≤w3.heap.size):=hid (by have:=H3.o.size;have:=HSZ.o;omega)
        clear h3
        clear c0 c1 c2 c3 c4 c5)
     | (at_builtin
        refine app_bytes (w0:=w3) rfl _ _ rfl N u4 L (refEncT l k) (by rfl) HO3.o HS3.o (by have:=HLB.o;omega) a3 m3 p3 (num d) HM3.o (by have:=HM10.o;omega) (by rfl) HB3.o HA3.o ?_
        intro v5 w5 ho5 h5
        have HO5:Hid (w5.ownsRow N 5 1 v5 (L+m3) (bvals (refEncT l (k+1)))):=hid (by rw [HSU.o];exact ho5)
        have H5:Hid (Below N w w5):=hid ((HBE.o.trans (H3.o.mono HSZ.o)).trans h5)
        clear ho5 h5))
    go_roundw
    case rel=>exact ⟨k+1,L+m3,hlt,by go_num,HO5.o,hid (by rw [HSU.o,List.length_append,HLL.o];exact congrArg (L+ ·) HM3.o),H5.o⟩
    case measure=>simp [intOf];omega
   ·have HSS:Hid (s.size≤1000000):=hid HOX.o
    have HDD:Hid (s.size<18446744073709551616):=hid (by have:=HSS.o;omega)
    have hwu:IntKind.u64.wrap (s.size:Int)=(s.size:Int):=by have:=HDD.o;rw [IntKind.wrap_u64];omega
    obtain ⟨c0,c1,c2,c3,c4,c5⟩:=HSX.o (.int .i64 4) (.int .u64 0) (.int .i64 0) (.bool false) (.string s) (.int .i64 0) (by rw [HXX.o];rfl)
    go_upto_region 6 with fail
    refine wp_over (fun V=>Hid (V.heap[wr.heap.size]? =some (.cells #[.int .i64 4,.int .u64 0,.int .i64 0,.bool false,.string s,.int .i64 0] 187 (0,0)))∧Hid (V.heap.size=wr.heap.size+1)∧Hid (Below wr.heap.size wr V)∧Hid (V.ownsRow N 5 1 u4 L (bvals (refEncT l k)))) ⟨heap_alloc_new _ _,by show _=_;simp,(Below.refl _ _).alloc (Nat.le_refl _) _,HO.o.alloc _⟩ ?_
    rintro W2 ⟨HG2,HZ2,HB2,HO2⟩
    clear c0 c1 c2 c3 c4 c5
    obtain ⟨c0,c1,c2,c3,c4,c5⟩:=row6 HG2.o
    obtain ⟨N2,hN2⟩:=ex_eq wr.heap.size
    rw [hN2] at HG2 HZ2 HB2 c0 c1 c2 c3 c4 c5 ⊢
    have HN2:=hid hN2
    clear hN2
    have HBW:Hid (Below wr.heap.size wr W2):=hid (by rw [HN2.o];exact HB2.o)
    go_upto_region 17 with fail
    refine Kit.wp_region_gplan (fun V=>V.cell? ⟨N2,4,none⟩=some (.string s)) [(true,0),(true,1),(true,2),(true,3),(true,4),(true,7),(true,8),(false,5),(false,6),(false,9),(true,10)] (by kernel_rfl) (by kernel_rfl) (by kernel_rfl) (by kernel_rfl) c4 ?_
    iterate 7 (refine Kit.ghd (h:= ?_))
    clear c0 c1 c2 c3 c4 c5
    refine Kit.gplan_op (by rfl) (by rfl) fun K hK=> ?_
    go_simp
    go_at_call 213
    (with_reducible refine (refNumber_any s.size HDD.o _).mono ?_)
    rintro e w3 ⟨v3,m3,rfl,hm3,ho3,h3⟩
    have hm10:=num_len10 HDD.o
    obtain ⟨a3,p3,rfl,hl3,_,hb3,hn3,_⟩:=own_bytes ho3 (num_lt s.size) (by unfold maxLen;omega)
    have HM10:Hid (m3≤10):=hid (by rw [hm3];exact hm10)
    have HM3:Hid ((num s.size).length=m3):=hid hm3.symm
    have HB3:=hid hb3
    have HA3:=hid hn3
    clear hm3 ho3 hm10 hl3 hb3 hn3
    have h4:Below W2.heap.size W2 w3:=(Below.refl _ W2).drew.trans h3
    have HR4:=hid ((h4.block N2 (by have:=HZ2.o;omega)).trans HG2.o)
    have HC4:Hid (w3.cell? ⟨N2,4,none⟩=some (.string s)):=hid (row6 HR4.o).2.2.2.2.1
    have H3:Hid (Below wr.heap.size wr w3):=hid (by rw [HN2.o];exact HB2.o.trans (h4.mono (by have:=HZ2.o;omega)))
    have HO3:Hid (w3.ownsRow N 5 1 u4 L (bvals (refEncT l k))):=hid (ownsRow_keepM HO.o (Chg.of_below H3.o:Chg (fun _ _=>False) wr w3) (fun q hq i e=>e))
    have HS3:Hid (N≤w3.heap.size):=hid (by have:=H3.o.size;have:=HSZ.o;omega)
    clear h3
    clear h4
    refine hK _ _ HC4.o ?_
    clear hK K
    refine Kit.gplan_op (by rfl) (by rfl) fun K hK=> ?_
    refine wp_app_bytes (w0:=w3) (.tmp 48) (.tmp 53) (by rfl) N u4 L (refEncT l k) (by rfl) HO3.o HS3.o (by have:=HLB.o;omega) a3 m3 p3 (num s.size) HM3.o (by have h:=num_pos s.size;rw [HM3.o] at h;exact h) (by have:=HM10.o;omega) (by rfl) HB3.o ?_
    intro v5 w5 ho5 h5 g5
    have HO5:=hid ho5
    have H5:Hid (Below N wr w5):=hid ((H3.o.mono HSZ.o).trans h5)
    have HS5:Hid (N≤w5.heap.size):=hid (by have:=H5.o.size;have:=HSZ.o;omega)
    have HR5:=hid ((g5.block N2 (gS HR4.o).1 (fun e=>own_ne HO3.o HR4.o (by decide) N2 e.symm rfl)).trans HR4.o)
    have HCC:Hid (w5.cell? ⟨N2,4,none⟩=some (.string s)):=hid (row6 HR5.o).2.2.2.2.1
    clear ho5 h5 g5
    refine hK _ _ HCC.o ?_
    clear hK K
    refine Kit.gplan_op (by rfl) (by rfl) fun K hK=> ?_
    refine wp_app_txt (w0:=w5) (.tmp 54) (.tmp 56) (by rfl) N v5 (L+m3) (refEncT l k++num s.size) (by rfl) HO5.o HS5.o (by have:=HLB.o;have:=HM10.o;omega) s s.size rfl (by have:=HSS.o;omega) (by rfl) ?_
    intro v6 w6 ho6 h6 g6
    have HO6:Hid (w6.ownsRow N 5 1 v6 (L+m3+s.size) (bvals (refEncT l (k+1)))):=hid (by rw [HSU.o];show w6.ownsRow N 5 1 v6 _ (bvals (refEncT l k++(num s.size++nb s)));rw [← List.append_assoc];exact ho6)
    have H6:Hid (Below N w w6):=hid ((HBE.o.trans H5.o).trans h6)
    have hc6:=(row6 ((g6.block N2 (gS HR5.o).1 (fun e=>own_ne HO5.o HR5.o (by decide) N2 e.symm rfl)).trans HR5.o)).2.2.2.2.1
    clear ho6 h6 g6
    refine hK _ _ hc6 ?_
    clear hc6
    clear hK K
    iterate 1 (refine Kit.ghd (h:= ?_))
    refine Kit.gdn (h:=?_)
    go_wp2_with fail
    go_roundw
    case rel=>exact ⟨k+1,L+m3+s.size,hlt,by go_num,HO6.o,hid (by rw [HSU.o,List.length_append,HLL.o];show L+(num s.size++nb s).length=_;rw [List.length_append,HM3.o,nb_length];omega),H6.o⟩
    case measure=>simp [intOf];omega
   ·have HSS:Hid (s.size≤1000000):=hid HOX.o
    have HDD:Hid (s.size<18446744073709551616):=hid (by have:=HSS.o;omega)
    have hwu:IntKind.u64.wrap (s.size:Int)=(s.size:Int):=by have:=HDD.o;rw [IntKind.wrap_u64];omega
    obtain ⟨c0,c1,c2,c3,c4,c5⟩:=HSX.o (.int .i64 5) (.int .u64 0) (.int .i64 0) (.bool false) (.string s) (.int .i64 0) (by rw [HXX.o];rfl)
    go_upto_region 6 with fail
    refine wp_over (fun V=>Hid (V.heap[wr.heap.size]? =some (.cells #[.int .i64 5,.int .u64 0,.int .i64 0,.bool false,.string s,.int .i64 0] 187 (0,0)))∧Hid (V.heap.size=wr.heap.size+1)∧Hid (Below wr.heap.size wr V)∧Hid (V.ownsRow N 5 1 u4 L (bvals (refEncT l k)))) ⟨heap_alloc_new _ _,by show _=_;simp,(Below.refl _ _).alloc (Nat.le_refl _) _,HO.o.alloc _⟩ ?_
    rintro W2 ⟨HG2,HZ2,HB2,HO2⟩
    clear c0 c1 c2 c3 c4 c5
    obtain ⟨c0,c1,c2,c3,c4,c5⟩:=row6 HG2.o
    obtain ⟨N2,hN2⟩:=ex_eq wr.heap.size
    rw [hN2] at HG2 HZ2 HB2 c0 c1 c2 c3 c4 c5 ⊢
    have HN2:=hid hN2
    clear hN2
    have HBW:Hid (Below wr.heap.size wr W2):=hid (by rw [HN2.o];exact HB2.o)
    go_upto_region 17 with fail
    refine Kit.wp_region_gplan (fun V=>V.cell? ⟨N2,4,none⟩=some (.string s)) [(true,0),(true,1),(true,2),(true,3),(true,4),(true,7),(true,8),(false,5),(false,6),(false,9),(true,10)] (by kernel_rfl) (by kernel_rfl) (by kernel_rfl) (by kernel_rfl) c4 ?_
    iterate 7 (refine Kit.ghd (h:= ?_))
    clear c0 c1 c2 c3 c4 c5
    refine Kit.gplan_op (by rfl) (by rfl) fun K hK=> ?_
    go_simp
    go_at_call 213
    (with_reducible refine (refNumber_any s.size HDD.o _).mono ?_)
    rintro e w3 ⟨v3,m3,rfl,hm3,ho3,h3⟩
    have hm10:=num_len10 HDD.o
    obtain ⟨a3,p3,rfl,hl3,_,hb3,hn3,_⟩:=own_bytes ho3 (num_lt s.size) (by unfold maxLen;omega)
    have HM10:Hid (m3≤10):=hid (by rw [hm3];exact hm10)
    have HM3:Hid ((num s.size).length=m3):=hid hm3.symm
    have HB3:=hid hb3
    have HA3:=hid hn3
    clear hm3 ho3 hm10 hl3 hb3 hn3
    have h4:Below W2.heap.size W2 w3:=(Below.refl _ W2).drew.trans h3
    have HR4:=hid ((h4.block N2 (by have:=HZ2.o;omega)).trans HG2.o)
    have HC4:Hid (w3.cell? ⟨N2,4,none⟩=some (.string s)):=hid (row6 HR4.o).2.2.2.2.1
    have H3:Hid (Below wr.heap.size wr w3):=hid (by rw [HN2.o];exact HB2.o.trans (h4.mono (by have:=HZ2.o;omega)))
    have HO3:Hid (w3.ownsRow N 5 1 u4 L (bvals (refEncT l k))):=hid (ownsRow_keepM HO.o (Chg.of_below H3.o:Chg (fun _ _=>False) wr w3) (fun q hq i e=>e))
    have HS3:Hid (N≤w3.heap.size):=hid (by have:=H3.o.size;have:=HSZ.o;omega)
    clear h3
    clear h4
    refine hK _ _ HC4.o ?_
    clear hK K
    refine Kit.gplan_op (by rfl) (by rfl) fun K hK=> ?_
    refine wp_app_bytes (w0:=w3) (.tmp 48) (.tmp 53) (by rfl) N u4 L (refEncT l k) (by rfl) HO3.o HS3.o (by have:=HLB.o;omega) a3 m3 p3 (num s.size) HM3.o (by have h:=num_pos s.size;rw [HM3.o] at h;exact h) (by have:=HM10.o;omega) (by rfl) HB3.o ?_
    intro v5 w5 ho5 h5 g5
    have HO5:=hid ho5
    have H5:Hid (Below N wr w5):=hid ((H3.o.mono HSZ.o).trans h5)
    have HS5:Hid (N≤w5.heap.size):=hid (by have:=H5.o.size;have:=HSZ.o;omega)
    have HR5:=hid ((g5.block N2 (gS HR4.o).1 (fun e=>own_ne HO3.o HR4.o (by decide) N2 e.symm rfl)).trans HR4.o)
    have HCC:Hid (w5.cell? ⟨N2,4,none⟩=some (.string s)):=hid (row6 HR5.o).2.2.2.2.1
    clear ho5 h5 g5
    refine hK _ _ HCC.o ?_
    clear hK K
    refine Kit.gplan_op (by rfl) (by rfl) fun K hK=> ?_
    refine wp_app_txt (w0:=w5) (.tmp 54) (.tmp 56) (by rfl) N v5 (L+m3) (refEncT l k++num s.size) (by rfl) HO5.o HS5.o (by have:=HLB.o;have:=HM10.o;omega) s s.size rfl (by have:=HSS.o;omega) (by rfl) ?_
    intro v6 w6 ho6 h6 g6
    have HO6:Hid (w6.ownsRow N 5 1 v6 (L+m3+s.size) (bvals (refEncT l (k+1)))):=hid (by rw [HSU.o];show w6.ownsRow N 5 1 v6 _ (bvals (refEncT l k++(num s.size++nb s)));rw [← List.append_assoc];exact ho6)
    have H6:Hid (Below N w w6):=hid ((HBE.o.trans H5.o).trans h6)
    have hc6:=(row6 ((g6.block N2 (gS HR5.o).1 (fun e=>own_ne HO5.o HR5.o (by decide) N2 e.symm rfl)).trans HR5.o)).2.2.2.2.1
    clear ho6 h6 g6
    refine hK _ _ hc6 ?_
    clear hc6
    clear hK K
    iterate 1 (refine Kit.ghd (h:= ?_))
    refine Kit.gdn (h:=?_)
    go_wp2_with fail
    go_roundw
    case rel=>exact ⟨k+1,L+m3+s.size,hlt,by go_num,HO6.o,hid (by rw [HSU.o,List.length_append,HLL.o];show L+(num s.size++nb s).length=_;rw [List.length_append,HM3.o,nb_length];omega),H6.o⟩
    case measure=>simp [intOf];omega
   ·have HSS:Hid (s.size=32):=hid HOX.o
    obtain ⟨c0,c1,c2,c3,c4,c5⟩:=HSX.o (.int .i64 6) (.int .u64 0) (.int .i64 0) (.bool false) (.string s) (.int .i64 0) (by rw [HXX.o];rfl)
    go_upto_region 6 with fail
    refine wp_over (fun V=>Hid (V.heap[wr.heap.size]? =some (.cells #[.int .i64 6,.int .u64 0,.int .i64 0,.bool false,.string s,.int .i64 0] 187 (0,0)))∧Hid (V.heap.size=wr.heap.size+1)∧Hid (Below wr.heap.size wr V)∧Hid (V.ownsRow N 5 1 u4 L (bvals (refEncT l k)))) ⟨heap_alloc_new _ _,by show _=_;simp,(Below.refl _ _).alloc (Nat.le_refl _) _,HO.o.alloc _⟩ ?_
    rintro W2 ⟨HG2,HZ2,HB2,HO2⟩
    clear c0 c1 c2 c3 c4 c5
    obtain ⟨c0,c1,c2,c3,c4,c5⟩:=row6 HG2.o
    obtain ⟨N2,hN2⟩:=ex_eq wr.heap.size
    rw [hN2] at HG2 HZ2 HB2 c0 c1 c2 c3 c4 c5 ⊢
    have HN2:=hid hN2
    clear hN2
    have hss:(s.size:Int)=32:=by have:=HSS.o;omega
    have HBW:Hid (Below wr.heap.size wr W2):=hid (by rw [HN2.o];exact HB2.o)
    have HSW:Hid (N≤W2.heap.size):=hid (by have:=HBW.o.size;have:=HSZ.o;omega)
    go_wp2_with (first
     | (at_builtin
        refine app_txt (w0:=W2) rfl _ _ rfl N u4 L (refEncT l k) (by rfl) HO2.o HSW.o (by have:=HLB.o;omega) s 32 HSS.o (by decide) (by rfl) ?_
        intro v5 w5 ho5 h5
        have HO5:Hid (w5.ownsRow N 5 1 v5 (L+32) (bvals (refEncT l (k+1)))):=hid (by rw [HSU.o];exact ho5)
        have H5:Hid (Below N w w5):=hid ((HBE.o.trans (HBW.o.mono HSZ.o)).trans h5)
        clear ho5 h5))
    go_roundw
    case rel=>exact ⟨k+1,L+32,hlt,by go_num,HO5.o,hid (by rw [HSU.o,List.length_append,HLL.o];exact congrArg (L+ ·) ((nb_length s).trans HSS.o)),H5.o⟩
    case measure=>simp [intOf];omega
   ·have HDD:Hid (d<18446744073709551616):=hid (by have h:=HOX.o;unfold RV.ok at h;omega)
    have hneg: ¬(d:Int)<0:=by omega
    have hwu:IntKind.u64.wrap (d:Int)=(d:Int):=by have:=HDD.o;rw [IntKind.wrap_u64];omega
    obtain ⟨c0,c1,c2,c3,c4,c5⟩:=HSX.o (.int .i64 7) (.int .u64 0) (.int .i64 (d:Int)) (.bool false) (.string { data:= #[] }) (.int .i64 0) (by rw [HXX.o];rfl)
    go_upto_region 6 with fail
    refine wp_over (fun V=>Hid (V.heap[wr.heap.size]? =some (.cells #[.int .i64 7,.int .u64 0,.int .i64 (d:Int),.bool false,.string { data:= #[] },.int .i64 0] 187 (0,0)))∧Hid (V.heap.size=wr.heap.size+1)∧Hid (Below wr.heap.size wr V)∧Hid (V.ownsRow N 5 1 u4 L (bvals (refEncT l k)))) ⟨heap_alloc_new _ _,by show _=_;simp,(Below.refl _ _).alloc (Nat.le_refl _) _,HO.o.alloc _⟩ ?_
    rintro W2 ⟨HG2,HZ2,HB2,HO2⟩
    clear c0 c1 c2 c3 c4 c5
    obtain ⟨c0,c1,c2,c3,c4,c5⟩:=row6 HG2.o
    obtain ⟨N2,hN2⟩:=ex_eq wr.heap.size
    rw [hN2] at HG2 HZ2 HB2 c0 c1 c2 c3 c4 c5 ⊢
    have HN2:=hid hN2
    clear hN2
    go_wp2_with (first
     | (go_at_call 213
        (with_reducible refine (refNumber_any d HDD.o _).mono ?_)
        rintro e w3 ⟨v3,m3,rfl,hm3,ho3,h3⟩
        have hm10:=num_len10 HDD.o
        obtain ⟨a3,p3,rfl,hl3,_,hb3,hn3,_⟩:=own_bytes ho3 (num_lt d) (by unfold maxLen;omega)
        have HM10:Hid (m3≤10):=hid (by rw [hm3];exact hm10)
        have HM3:Hid ((num d).length=m3):=hid hm3.symm
        have HB3:=hid hb3
        have HA3:=hid hn3
        clear hm3 ho3 hm10 hl3 hb3 hn3
        have H3:Hid (Below wr.heap.size wr w3):=hid (by rw [HN2.o];exact HB2.o.trans (h3.mono (by have:=HZ2.o;omega)))
        have HO3:Hid (w3.ownsRow N 5 1 u4 L (bvals (refEncT l k))):=hid (ownsRow_keepM HO.o (Chg.of_below H3.o:Chg (fun _ _=>False) wr w3) (fun q hq i e=>e))
        have HS3:Hid (N≤w3.heap.size):=hid (by have:=H3.o.size;have:=HSZ.o;omega)
        clear h3
        clear c0 c1 c2 c3 c4 c5)
     | (at_builtin
        refine app_bytes (w0:=w3) rfl _ _ rfl N u4 L (refEncT l k) (by rfl) HO3.o HS3.o (by have:=HLB.o;omega) a3 m3 p3 (num d) HM3.o (by have:=HM10.o;omega) (by rfl) HB3.o HA3.o ?_
        intro v5 w5 ho5 h5
        have HO5:Hid (w5.ownsRow N 5 1 v5 (L+m3) (bvals (refEncT l (k+1)))):=hid (by rw [HSU.o];exact ho5)
        have H5:Hid (Below N w w5):=hid ((HBE.o.trans (H3.o.mono HSZ.o)).trans h5)
        clear ho5 h5))
    go_roundw
    case rel=>exact ⟨k+1,L+m3,hlt,by go_num,HO5.o,hid (by rw [HSU.o,List.length_append,HLL.o];exact congrArg (L+ ·) HM3.o),H5.o⟩
    case measure=>simp [intOf];omega
  ·have hki: ¬(k:Int)<(n:Int):=by omega
   have HE:Hid (refEncT l k=T):=hid (by rw [refEncT_all l k (by rw [HNL.o];omega),HTE.o])
   rw [HE.o] at HO HLL
   have HTS:Hid (∀x ∈ T,x<256):=hid (by rw [← HE.o];exact refEncT_lt l k)
   have hgt: ¬(1048576:Int)<(L:Int):=by have:=HTL.o;rw [HLL.o] at this;omega
   obtain ⟨ad,cap,rfl,h1,h2,h3,h4,_⟩:=own_bytes HO.o HTS.o (by have:=HTL.o;unfold maxLen;omega)
   have H3:=hid h3
   have H4:=hid h4
   have H2:Hid (L≤cap):=hid (by rw [← h1];exact h2)
   clear h1 h2 h3 h4
   go_wp2_with fail
   go_ret2
   exact ⟨ad,L,cap,rfl,HLL.o,H2.o,H3.o,H4.o,by rw [HN.o];exact HBE.o⟩
theorem vs_of_row {w:World} {b:Nat} {row:Array Value} {t:TypeId} {fr:Nat × Nat} {l:List RV} (hg:w.heap[b]? =some (.cells row t fr)) (h:(l.flatMap RV.cells).toArray=row):VsAt w (some ⟨b,0,none⟩) l:=by
 subst h
 refine .inr ⟨b,0,rfl,fun i hi j u hj=> ?_⟩
 rw [cell_of_row _ _ _ _ _ _ hg,Nat.zero_add]
 have hj6:j<6:=by have:=(List.getElem?_eq_some_iff.1 hj).1;rw [RV.len6] at this;exact this
 have H: ∀(l:List RV) (i:Nat) (hi:i<l.length),(l[i]).cells[j]? =some u→(l.flatMap RV.cells)[i*6+j]? =some u:=by
  intro l
  induction l with
  | nil=>intro i hi;simp at hi
  | cons x l ih=>
    intro i hi h
    rw [List.flatMap_cons]
    cases i with
    | zero=>rw [List.getElem?_append_left (by rw [RV.len6];omega),Nat.zero_mul,Nat.zero_add];exact h
    | succ i=>
      rw [List.getElem?_append_right (by rw [RV.len6];omega),RV.len6,show (i+1)*6+j - 6=i*6+j by omega]
      exact ih i (by simpa using hi) (by simpa using h)
 rw [List.getElem?_toArray]
 exact H l i hi hj
theorem num43_any (d:Nat) (hd:d<9223372036854775808) (w:World):Calls Tryz.prog 124 #[.int .i64 (d:Int)] w fun e w'=>e= .returned (.agg #[.int .i64 1,.int .u64 (d:Int),.int .i64 0,.bool false,.string { data:= #[] },.int .i64 0])∧Below w.heap.size w w':=by
 have hwu:IntKind.u64.wrap (d:Int)=(d:Int):=by rw [IntKind.wrap_u64];omega
 clear hd
 go_enter Tryz.func124,Tryz.ntmps124
 go_wp2_with fail
 refine bodyPost_ret (results_cell_row (p:=2) rfl _ _ w.heap.size 187 #[.int .i64 1,.int .u64 (d:Int),.int .i64 0,.bool false,.string { data:= #[] },.int .i64 0] (0,0) _ (by rfl) (heap_alloc_new _ _) Tryz.underlying187 rfl (by kernel_rfl)) rfl ?_
 exact ⟨rfl,(Below.refl _ _).alloc (Nat.le_refl _) _⟩
theorem sum43_any (s:ByteArray) (w:World):Calls Tryz.prog 126 #[.string s] w fun e w'=>e= .returned (.agg #[.int .i64 6,.int .u64 0,.int .i64 0,.bool false,.string s,.int .i64 0])∧Below w.heap.size w w':=by
 go_enter Tryz.func126,Tryz.ntmps126
 go_wp2_with fail
 refine bodyPost_ret (results_cell_row (p:=2) rfl _ _ w.heap.size 187 #[.int .i64 6,.int .u64 0,.int .i64 0,.bool false,.string s,.int .i64 0] (0,0) _ (by rfl) (heap_alloc_new _ _) Tryz.underlying187 rfl (by kernel_rfl)) rfl ?_
 exact ⟨rfl,(Below.refl _ _).alloc (Nat.le_refl _) _⟩
end Go.Proofs.YtndlihclgdkpaaaGreatDoor
