/- Texts Rfq, Rgq, Qrm, Qrv, Qrl, merged. -/
import Derived.Laws.MakeOwn
import Derived.Maps.AppendAt
import Derived.Lib.AppendStr
import Derived.Test.YtndlihclgdkpaaaGreatDoorGc
import Derived.Test.YtndlihclgdkpaaaGreatDoorGd
import Derived.Test.YtndlihclgdkpaaaGreatDoorGg
import Derived.Test.YtndlihclgdkpaaaGreatDoorGh
import Derived.Test.YtndlihclgdkpaaaGreatDoorGi
import Derived.Test.YtndlihclgdkpaaaGreatDoorGj
/- The document's Encode of a list of values. -/
set_option linter.unusedVariables false
set_option linter.unusedSimpArgs false
open Go.Lib (hid)
set_option maxHeartbeats 4000000
set_option maxRecDepth 100000
namespace Go.Proofs.YtndlihclgdkpaaaGreatDoor
open Go.RowKit
open Kit (Chg)
open Sha (v)
open Go.Proofs.YtndlihclgdkpaaaGreatDoor.One

section
variable {a:Act} {Q:Exit→Act→World→Prop} {K:Act→World→Prop} {o:Oper}
theorem wp_app_bytes {w0:World} (s x:Operand) (ho:o.op= .call { callee:= .builtin .append,args:= #[s,x],argTypes:= #[52, 52] })
    (base:Nat) (v:Value) (L:Nat) (cur:List Nat) (hs:a.eval s=v) (hown:w0.ownsRow base 5 1 v L (bvals cur)) (hb:base≤w0.heap.size) (hL:L≤1000000000)
    (ao:Option Addr) (m c:Nat) (xs:List Nat) (hm:xs.length=m) (hm0:0<m) (hm2:m≤1000000000) (hx:a.eval x= .slice ao m c) (hB:BytesAt w0 ao xs)
    (h: ∀v' w',w'.ownsRow base 5 1 v' (L+m) (bvals (cur++xs))→Below base w0 w'→w0.grownBy w' v.ownBlock→K (a.put o.dst v') w'):o.wp Tryz.prog a w0 K Q:=by
 obtain ⟨i0,hi,hz0,hz1,hz2⟩:=info_parts Tryz.info5
 subst hm
 rcases hB.1 with e | ⟨b,of,e,hc⟩
 ·rw [e] at hm0;simp at hm0
 ·subst e
  have hn: ∀j u,(bvals xs)[j]? =some u→w0.cell? ((⟨b,of,none⟩:Addr).add j)=some u:=fun j u hj=>by
   have hlt:j<xs.length:=by
    have:=(List.getElem?_eq_some_iff.1 hj).1
    simpa [bvals] using this
   rw [add_none,hc j hlt,← hj]
   unfold bvals
   rw [List.getElem?_map,lE hlt,lD,lE hlt]
   rfl
  obtain ⟨v',w',hr,h2,h3,_,_⟩:=run_append_own_at (P:= Tryz.prog) w0 base 52 o.type 5 i0 (.int .u8 0) 1 1 Tryz.underlying52 hi hz0 hz1 hz2 rfl (by decide) v L (bvals cur) hown ⟨b,of,none⟩ xs.length c (bvals xs) (by simp [bvals]) hn (bvals_one _) (by unfold maxLen;omega) (by omega) hb
  unfold Oper.wp execOp
  simp only [ho,resolve,invoke,builtin,Sem.run_bind,Sem.run_pure,Result.andThen_ok,List.map_toArray,List.map_cons,List.map_nil,hs,hx,hr]
  exact h v' w' (by rw [bvals_append];exact h2) ((Chg.of_grown h3 (fun q _ e=>(hown.lt q e).1):Chg (fun q _=>base≤q) w0 w').below hb (fun q i hq h=>by omega)) h3
theorem wp_app_txt {w0:World} (s x:Operand) (ho:o.op= .call { callee:= .builtin .append,args:= #[s,x],argTypes:= #[52,9] })
    (base:Nat) (v:Value) (L:Nat) (cur:List Nat) (hs:a.eval s=v) (hown:w0.ownsRow base 5 1 v L (bvals cur)) (hb:base≤w0.heap.size) (hL:L≤1000000000)
    (str:ByteArray) (m:Nat) (hm:str.size=m) (hm2:m≤1000000000) (hx:a.eval x= .string str)
    (h: ∀v' w',w'.ownsRow base 5 1 v' (L+m) (bvals (cur++nb str))→Below base w0 w'→w0.grownBy w' v.ownBlock→K (a.put o.dst v') w'):o.wp Tryz.prog a w0 K Q:=by
 obtain ⟨i0,hi,hz0,hz1,hz2⟩:=info_parts Tryz.info5
 subst hm
 obtain ⟨v',w',hr,h2,h3,_⟩:=Go.Lib.run_append_own_string (P:= Tryz.prog) (w:=w0) base 52 9 o.type 5 i0 Tryz.underlying52 Tryz.underlying9 hi hz0 hz1 hz2 v L (bvals cur) hown str (by unfold maxLen;omega) (by omega) hb
 rw [strCells_bvals] at h2
 unfold Oper.wp execOp
 simp only [ho,resolve,invoke,builtin,Sem.run_bind,Sem.run_pure,Result.andThen_ok,List.map_toArray,List.map_cons,List.map_nil,hs,hx,hr]
 exact h v' w' (by rw [bvals_append];exact h2) ((Chg.of_grown h3 (fun q _ e=>(hown.lt q e).1):Chg (fun q _=>base≤q) w0 w').below hb (fun q i hq h=>by omega)) h3
end
theorem own_ne {w:World} {base n b:Nat} {v:Value} {xs:List Value} {row:Array Value} {T:TypeId} (h:w.ownsRow base 5 1 v n xs) (hg:w.heap[b]? =some (.cells row T (0,0))) (hT:T≠5): ∀q,v.ownBlock=some q→q≠b:=by
 intro q hq e
 subst e
 rcases h.2 with ⟨rfl,_⟩ | ⟨g,cap,cur,rfl,_,hr,_⟩
 ·cases hq
 ·cases hq
  rw [hr] at hg
  cases hg
  exact hT rfl
inductive RV where
 | uint (n:Nat)
 | bytes (s:ByteArray)
 | text (s:ByteArray)
 | sum (s:ByteArray)
 | count (n:Nat)
def RV.cells:RV→List Value
 | .uint n=>[.int .i64 1,.int .u64 (n:Int),.int .i64 0,.bool false,.string { data:= #[] },.int .i64 0]
 | .bytes s=>[.int .i64 4,.int .u64 0,.int .i64 0,.bool false,.string s,.int .i64 0]
 | .text s=>[.int .i64 5,.int .u64 0,.int .i64 0,.bool false,.string s,.int .i64 0]
 | .sum s=>[.int .i64 6,.int .u64 0,.int .i64 0,.bool false,.string s,.int .i64 0]
 | .count n=>[.int .i64 7,.int .u64 0,.int .i64 (n:Int),.bool false,.string { data:= #[] },.int .i64 0]
def RV.enc:RV→List Nat
 | .uint n=>num n
 | .bytes s=>num s.size++nb s
 | .text s=>num s.size++nb s
 | .sum s=>nb s
 | .count n=>num n
def RV.ok:RV→Prop
 | .uint n=>n<18446744073709551616
 | .bytes s=>s.size≤1000000
 | .text s=>s.size≤1000000
 | .sum s=>s.size=32
 | .count n=>n<9223372036854775808
theorem RV.len6 (x:RV):x.cells.length=6:=by cases x<;> rfl
theorem RV.enc_lt (x:RV): ∀y ∈ x.enc,y<256:=by
 cases x with
 | uint n=>exact num_lt n
 | bytes s=>exact app_lt (num_lt _) (nb_lt s)
 | text s=>exact app_lt (num_lt _) (nb_lt s)
 | sum s=>exact nb_lt s
 | count n=>exact num_lt n
def VsAt (w:World) (a:Option Addr) (l:List RV):Prop:=l=[]∨ ∃b o,a=some ⟨b,o,none⟩∧ ∀i,(h:i<l.length)→ ∀j u,(l[i]).cells[j]? =some u→w.cell? ⟨b,o+i*6+j,none⟩=some u
theorem VsAt.later {w w':World} {a:Option Addr} {l:List RV} (h:VsAt w a l) (hb:Below w.heap.size w w'):VsAt w' a l:=by
 rcases h with h | ⟨b,o,e,hc⟩
 ·exact .inl h
 ·exact .inr ⟨b,o,e,fun i hi j u hj=>(hb.cell (World.block_lt_of_cell? w _ (hc i hi j u hj))).trans (hc i hi j u hj)⟩
def refEncT (l:List RV) (k:Nat):List Nat:=(l.take k).flatMap RV.enc
theorem refEncT_succ (l:List RV) (k:Nat) (h:k<l.length):refEncT l (k+1)=refEncT l k++(l[k]).enc:=by
 unfold refEncT
 rw [List.take_add_one,lE h,List.flatMap_append]
 show _++((l[k]).enc++[])=_
 rw [List.append_nil]
theorem refEncT_all (l:List RV) (k:Nat) (h:l.length≤k):refEncT l k=l.flatMap RV.enc:=by unfold refEncT;rw [List.take_of_length_le h]
theorem refEncT_le (l:List RV) (k:Nat):(refEncT l k).length≤(l.flatMap RV.enc).length:=by
 have h:refEncT l k++(l.drop k).flatMap RV.enc=l.flatMap RV.enc:=by unfold refEncT;rw [← List.flatMap_append,List.take_append_drop]
 rw [← h,List.length_append]
 omega
theorem refEncT_lt (l:List RV) (k:Nat): ∀x ∈ refEncT l k,x<256:=by
 intro x hx
 unfold refEncT at hx
 obtain ⟨y,_,hy⟩:=List.mem_flatMap.1 hx
 exact y.enc_lt x hy
theorem VsAt.six {w:World} {b o k:Nat} {l:List RV} (h: ∀i,(h:i<l.length)→ ∀j u,(l[i]).cells[j]? =some u→w.cell? ⟨b,o+i*6+j,none⟩=some u) (hk:k<l.length) {x0 x1 x2 x3 x4 x5:Value} (hx:(l[k]).cells=[x0,x1,x2,x3,x4,x5]):w.cell? ⟨b,o+k*6,none⟩=some x0∧w.cell? ⟨b,o+k*6+1,none⟩=some x1∧w.cell? ⟨b,o+k*6+2,none⟩=some x2∧w.cell? ⟨b,o+k*6+3,none⟩=some x3∧w.cell? ⟨b,o+k*6+4,none⟩=some x4∧w.cell? ⟨b,o+k*6+5,none⟩=some x5:=by
 have h1:=h k hk
 rw [hx] at h1
 exact ⟨h1 0 _ rfl,h1 1 _ rfl,h1 2 _ rfl,h1 3 _ rfl,h1 4 _ rfl,h1 5 _ rfl⟩
theorem refEncode_any (av:Option Addr) (cv n:Nat) (l:List RV) (hn:l.length=n) (h12:n≤1000) (hok: ∀x ∈ l,x.ok) (T:List Nat) (hT:l.flatMap RV.enc=T) (hTL:T.length≤1048576) (w:World) (hV:VsAt w av l):
    Calls Tryz.prog 127 #[.slice av n cv] w fun e w'=> ∃ad L cap,e= .returned (.tuple #[.slice ad L cap,.int .i64 0])∧T.length=L∧L≤cap∧BytesAt w' ad T∧(ad=none→cap=0)∧Below w.heap.size w w':=by
 have HV:=hid hV
 have HNL:=hid hn
 have HOK:=hid hok
 have HTE:=hid hT
 have HTL:=hid hTL
 clear hV hn hok hT hTL
 go_enter Tryz.func127,Tryz.ntmps127
 go_upto_region 2 with fail
 obtain ⟨N,hN⟩:=ex_eq w.heap.size
 have HN:=hid hN
 refine wp_over (fun W=>Hid (W.ownsRow N 5 1 (.slice (some ⟨w.heap.size,0,none⟩) 0 0) 0 (bvals []))∧Hid (Below N w W)) ⟨own_empty (by omega),(Below.refl _ _).alloc (by omega) _⟩ ?_
 rintro W ⟨HOW0,HB0⟩
 rw [hN] at HOW0 ⊢
 clear hN
 go_upto_region 3 with fail
 go_loopw [5,4] (fun z v wr=> ∃k L:Nat,k≤n∧z= .int .i64 (k:Int)∧Hid (wr.ownsRow N 5 1 v L (bvals (refEncT l k)))∧Hid ((refEncT l k).length=L)∧Hid (Below N w wr)) (fun z _ _=>n - (intOf z).toNat)
 case atStart=>exact ⟨0,0,by omega,rfl,HOW0.o,hid rfl,HB0.o⟩
 case round=>
  obtain ⟨k,L,hk,rfl,HO,HLL,HBE⟩:=hrel
  have HSZ:Hid (N≤wr.heap.size):=hid (by have:=HBE.o.size;have:=HN.o;omega)
  by_cases hlt:k<n
  ·have hki:(k:Int)<(n:Int):=by omega
   have HKL:Hid (k<l.length):=hid (by rw [HNL.o];exact hlt)
   obtain ⟨b0,o0,rfl,hcs⟩: ∃b o,av=some ⟨b,o,none⟩∧ ∀i,(h:i<l.length)→ ∀j u,(l[i]).cells[j]? =some u→wr.cell? ⟨b,o+i*6+j,none⟩=some u:=by
    rcases HV.o.later (by rw [HN.o];exact HBE.o) with h | h
    ·have:=HNL.o;rw [h] at this;simp at this;omega
    ·exact h
   have HSX:=hid (fun x0 x1 x2 x3 x4 x5 hx=>VsAt.six (x0:=x0) (x1:=x1) (x2:=x2) (x3:=x3) (x4:=x4) (x5:=x5) hcs HKL.o hx)
   have HSU:=hid (refEncT_succ l k HKL.o)
   have HLT:=hid (refEncT_lt l k)
   have HL1:Hid ((refEncT l (k+1)).length≤1048576):=hid (Nat.le_trans (refEncT_le l (k+1)) (by rw [HTE.o];exact HTL.o))
   have HOX:=hid (HOK.o _ (List.getElem_mem HKL.o))
   clear hcs
   obtain ⟨x,hx⟩:=ex_eq (l[k]'HKL.o)
   have HXX:Hid (l[k]'HKL.o=x):=hid hx
   rw [hx] at HSU HOX
   clear hx
   have HLB:Hid (L≤1048576):=hid (by have h1:=HL1.o;rw [HSU.o,List.length_append,HLL.o] at h1;omega)
   rcases x with d | s | s | s | d
   ·have HDD:Hid (d<18446744073709551616):=hid HOX.o
    obtain ⟨c0,c1,c2,c3,c4,c5⟩:=HSX.o (.int .i64 1) (.int .u64 (d:Int)) (.int .i64 0) (.bool false) (.string { data:= #[] }) (.int .i64 0) (by rw [HXX.o];rfl)
    go_upto_region 6 with fail
    refine wp_over (fun V=>Hid (V.heap[wr.heap.size]? =some (.cells #[.int .i64 1,.int .u64 (d:Int),.int .i64 0,.bool false,.string { data:= #[] },.int .i64 0] 187 (0,0)))∧Hid (V.heap.size=wr.heap.size+1)∧Hid (Below wr.heap.size wr V)∧Hid (V.ownsRow N 5 1 u4 L (bvals (refEncT l k)))) ⟨heap_alloc_new _ _,by show _=_;simp,(Below.refl _ _).alloc (Nat.le_refl _) _,HO.o.alloc _⟩ ?_
    rintro W2 ⟨HG2,HZ2,HB2,HO2⟩
    clear c0 c1 c2 c3 c4 c5
    obtain ⟨c0,c1,c2,c3,c4,c5⟩:=row6 HG2.o
    obtain ⟨N2,hN2⟩:=ex_eq wr.heap.size
    rw [hN2] at HG2 HZ2 HB2 c0 c1 c2 c3 c4 c5 ⊢
    have HN2:=hid hN2
    clear hN2
    go_wp2_with (first
     | (go_at_call 213
        (with_reducible refine (refNumber_any d HDD.o _).mono ?_)
        rintro e w3 ⟨v3,m3,rfl,hm3,ho3,h3⟩
        have hm10:=num_len10 HDD.o
        obtain ⟨a3,p3,rfl,hl3,_,hb3,hn3,_⟩:=own_bytes ho3 (num_lt d) (by unfold maxLen;omega)
        have HM10:Hid (m3≤10):=hid (by rw [hm3];exact hm10)
        have HM3:Hid ((num d).length=m3):=hid hm3.symm
        have HB3:=hid hb3
        have HA3:=hid hn3
        clear hm3 ho3 hm10 hl3 hb3 hn3
        have H3:Hid (Below wr.heap.size wr w3):=hid (by rw [HN2.o];exact HB2.o.trans (h3.mono (by have:=HZ2.o;omega)))
        have HO3:Hid (w3.ownsRow N 5 1 u4 L (bvals (refEncT l k))):=hid (ownsRow_keepM HO.o (Chg.of_below H3.o:Chg (fun _ _=>False) wr w3) (fun q hq i e=>e))
        have HS3:Hid (N≤w3.heap.size):=hid (by have:=H3.o.size;have:=HSZ.o;omega)
        clear h3
        clear c0 c1 c2 c3 c4 c5)
     | (at_builtin
        refine app_bytes (w0:=w3) rfl _ _ rfl N u4 L (refEncT l k) (by rfl) HO3.o HS3.o (by have:=HLB.o;omega) a3 m3 p3 (num d) HM3.o (by have:=HM10.o;omega) (by rfl) HB3.o HA3.o ?_
        intro v5 w5 ho5 h5
        have HO5:Hid (w5.ownsRow N 5 1 v5 (L+m3) (bvals (refEncT l (k+1)))):=hid (by rw [HSU.o];exact ho5)
        have H5:Hid (Below N w w5):=hid ((HBE.o.trans (H3.o.mono HSZ.o)).trans h5)
        clear ho5 h5))
    go_roundw
    case rel=>exact ⟨k+1,L+m3,hlt,by go_num,HO5.o,hid (by rw [HSU.o,List.length_append,HLL.o];exact congrArg (L+ ·) HM3.o),H5.o⟩
    case measure=>simp [intOf];omega
   ·have HSS:Hid (s.size≤1000000):=hid HOX.o
    have HDD:Hid (s.size<18446744073709551616):=hid (by have:=HSS.o;omega)
    have hwu:IntKind.u64.wrap (s.size:Int)=(s.size:Int):=by have:=HDD.o;rw [IntKind.wrap_u64];omega
    obtain ⟨c0,c1,c2,c3,c4,c5⟩:=HSX.o (.int .i64 4) (.int .u64 0) (.int .i64 0) (.bool false) (.string s) (.int .i64 0) (by rw [HXX.o];rfl)
    go_upto_region 6 with fail
    refine wp_over (fun V=>Hid (V.heap[wr.heap.size]? =some (.cells #[.int .i64 4,.int .u64 0,.int .i64 0,.bool false,.string s,.int .i64 0] 187 (0,0)))∧Hid (V.heap.size=wr.heap.size+1)∧Hid (Below wr.heap.size wr V)∧Hid (V.ownsRow N 5 1 u4 L (bvals (refEncT l k)))) ⟨heap_alloc_new _ _,by show _=_;simp,(Below.refl _ _).alloc (Nat.le_refl _) _,HO.o.alloc _⟩ ?_
    rintro W2 ⟨HG2,HZ2,HB2,HO2⟩
    clear c0 c1 c2 c3 c4 c5
    obtain ⟨c0,c1,c2,c3,c4,c5⟩:=row6 HG2.o
    obtain ⟨N2,hN2⟩:=ex_eq wr.heap.size
    rw [hN2] at HG2 HZ2 HB2 c0 c1 c2 c3 c4 c5 ⊢
    have HN2:=hid hN2
    clear hN2
    have HBW:Hid (Below wr.heap.size wr W2):=hid (by rw [HN2.o];exact HB2.o)
    go_upto_region 17 with fail
    refine Kit.wp_region_gplan (fun V=>V.cell? ⟨N2,4,none⟩=some (.string s)) [(true,0),(true,1),(true,2),(true,3),(true,4),(true,7),(true,8),(false,5),(false,6),(false,9),(true,10)] (by kernel_rfl) (by kernel_rfl) (by kernel_rfl) (by kernel_rfl) c4 ?_
    iterate 7 (refine Kit.ghd (h:= ?_))
    clear c0 c1 c2 c3 c4 c5
    refine Kit.gplan_op (by rfl) (by rfl) fun K hK=> ?_
    go_simp
    go_at_call 213
    (with_reducible refine (refNumber_any s.size HDD.o _).mono ?_)
    rintro e w3 ⟨v3,m3,rfl,hm3,ho3,h3⟩
    have hm10:=num_len10 HDD.o
    obtain ⟨a3,p3,rfl,hl3,_,hb3,hn3,_⟩:=own_bytes ho3 (num_lt s.size) (by unfold maxLen;omega)
    have HM10:Hid (m3≤10):=hid (by rw [hm3];exact hm10)
    have HM3:Hid ((num s.size).length=m3):=hid hm3.symm
    have HB3:=hid hb3
    have HA3:=hid hn3
    clear hm3 ho3 hm10 hl3 hb3 hn3
    have h4:Below W2.heap.size W2 w3:=(Below.refl _ W2).drew.trans h3
    have HR4:=hid ((h4.block N2 (by have:=HZ2.o;omega)).trans HG2.o)
    have HC4:Hid (w3.cell? ⟨N2,4,none⟩=some (.string s)):=hid (row6 HR4.o).2.2.2.2.1
    have H3:Hid (Below wr.heap.size wr w3):=hid (by rw [HN2.o];exact HB2.o.trans (h4.mono (by have:=HZ2.o;omega)))
    have HO3:Hid (w3.ownsRow N 5 1 u4 L (bvals (refEncT l k))):=hid (ownsRow_keepM HO.o (Chg.of_below H3.o:Chg (fun _ _=>False) wr w3) (fun q hq i e=>e))
    have HS3:Hid (N≤w3.heap.size):=hid (by have:=H3.o.size;have:=HSZ.o;omega)
    clear h3
    clear h4
    refine hK _ _ HC4.o ?_
    clear hK K
    refine Kit.gplan_op (by rfl) (by rfl) fun K hK=> ?_
    refine wp_app_bytes (w0:=w3) (.tmp 48) (.tmp 53) (by rfl) N u4 L (refEncT l k) (by rfl) HO3.o HS3.o (by have:=HLB.o;omega) a3 m3 p3 (num s.size) HM3.o (by have h:=num_pos s.size;rw [HM3.o] at h;exact h) (by have:=HM10.o;omega) (by rfl) HB3.o ?_
    intro v5 w5 ho5 h5 g5
    have HO5:=hid ho5
    have H5:Hid (Below N wr w5):=hid ((H3.o.mono HSZ.o).trans h5)
    have HS5:Hid (N≤w5.heap.size):=hid (by have:=H5.o.size;have:=HSZ.o;omega)
    have HR5:=hid ((g5.block N2 (gS HR4.o).1 (fun e=>own_ne HO3.o HR4.o (by decide) N2 e.symm rfl)).trans HR4.o)
    have HCC:Hid (w5.cell? ⟨N2,4,none⟩=some (.string s)):=hid (row6 HR5.o).2.2.2.2.1
    clear ho5 h5 g5
    refine hK _ _ HCC.o ?_
    clear hK K
    refine Kit.gplan_op (by rfl) (by rfl) fun K hK=> ?_
    refine wp_app_txt (w0:=w5) (.tmp 54) (.tmp 56) (by rfl) N v5 (L+m3) (refEncT l k++num s.size) (by rfl) HO5.o HS5.o (by have:=HLB.o;have:=HM10.o;omega) s s.size rfl (by have:=HSS.o;omega) (by rfl) ?_
    intro v6 w6 ho6 h6 g6
    have HO6:Hid (w6.ownsRow N 5 1 v6 (L+m3+s.size) (bvals (refEncT l (k+1)))):=hid (by rw [HSU.o];show w6.ownsRow N 5 1 v6 _ (bvals (refEncT l k++(num s.size++nb s)));rw [← List.append_assoc];exact ho6)
    have H6:Hid (Below N w w6):=hid ((HBE.o.trans H5.o).trans h6)
    have hc6:=(row6 ((g6.block N2 (gS HR5.o).1 (fun e=>own_ne HO5.o HR5.o (by decide) N2 e.symm rfl)).trans HR5.o)).2.2.2.2.1
    clear ho6 h6 g6
    refine hK _ _ hc6 ?_
    clear hc6
    clear hK K
    iterate 1 (refine Kit.ghd (h:= ?_))
    refine Kit.gdn (h:=?_)
    go_wp2_with fail
    go_roundw
    case rel=>exact ⟨k+1,L+m3+s.size,hlt,by go_num,HO6.o,hid (by rw [HSU.o,List.length_append,HLL.o];show L+(num s.size++nb s).length=_;rw [List.length_append,HM3.o,nb_length];omega),H6.o⟩
    case measure=>simp [intOf];omega
   ·have HSS:Hid (s.size≤1000000):=hid HOX.o
    have HDD:Hid (s.size<18446744073709551616):=hid (by have:=HSS.o;omega)
    have hwu:IntKind.u64.wrap (s.size:Int)=(s.size:Int):=by have:=HDD.o;rw [IntKind.wrap_u64];omega
    obtain ⟨c0,c1,c2,c3,c4,c5⟩:=HSX.o (.int .i64 5) (.int .u64 0) (.int .i64 0) (.bool false) (.string s) (.int .i64 0) (by rw [HXX.o];rfl)
    go_upto_region 6 with fail
    refine wp_over (fun V=>Hid (V.heap[wr.heap.size]? =some (.cells #[.int .i64 5,.int .u64 0,.int .i64 0,.bool false,.string s,.int .i64 0] 187 (0,0)))∧Hid (V.heap.size=wr.heap.size+1)∧Hid (Below wr.heap.size wr V)∧Hid (V.ownsRow N 5 1 u4 L (bvals (refEncT l k)))) ⟨heap_alloc_new _ _,by show _=_;simp,(Below.refl _ _).alloc (Nat.le_refl _) _,HO.o.alloc _⟩ ?_
    rintro W2 ⟨HG2,HZ2,HB2,HO2⟩
    clear c0 c1 c2 c3 c4 c5
    obtain ⟨c0,c1,c2,c3,c4,c5⟩:=row6 HG2.o
    obtain ⟨N2,hN2⟩:=ex_eq wr.heap.size
    rw [hN2] at HG2 HZ2 HB2 c0 c1 c2 c3 c4 c5 ⊢
    have HN2:=hid hN2
    clear hN2
    have HBW:Hid (Below wr.heap.size wr W2):=hid (by rw [HN2.o];exact HB2.o)
    go_upto_region 17 with fail
    refine Kit.wp_region_gplan (fun V=>V.cell? ⟨N2,4,none⟩=some (.string s)) [(true,0),(true,1),(true,2),(true,3),(true,4),(true,7),(true,8),(false,5),(false,6),(false,9),(true,10)] (by kernel_rfl) (by kernel_rfl) (by kernel_rfl) (by kernel_rfl) c4 ?_
    iterate 7 (refine Kit.ghd (h:= ?_))
    clear c0 c1 c2 c3 c4 c5
    refine Kit.gplan_op (by rfl) (by rfl) fun K hK=> ?_
    go_simp
    go_at_call 213
    (with_reducible refine (refNumber_any s.size HDD.o _).mono ?_)
    rintro e w3 ⟨v3,m3,rfl,hm3,ho3,h3⟩
    have hm10:=num_len10 HDD.o
    obtain ⟨a3,p3,rfl,hl3,_,hb3,hn3,_⟩:=own_bytes ho3 (num_lt s.size) (by unfold maxLen;omega)
    have HM10:Hid (m3≤10):=hid (by rw [hm3];exact hm10)
    have HM3:Hid ((num s.size).length=m3):=hid hm3.symm
    have HB3:=hid hb3
    have HA3:=hid hn3
    clear hm3 ho3 hm10 hl3 hb3 hn3
    have h4:Below W2.heap.size W2 w3:=(Below.refl _ W2).drew.trans h3
    have HR4:=hid ((h4.block N2 (by have:=HZ2.o;omega)).trans HG2.o)
    have HC4:Hid (w3.cell? ⟨N2,4,none⟩=some (.string s)):=hid (row6 HR4.o).2.2.2.2.1
    have H3:Hid (Below wr.heap.size wr w3):=hid (by rw [HN2.o];exact HB2.o.trans (h4.mono (by have:=HZ2.o;omega)))
    have HO3:Hid (w3.ownsRow N 5 1 u4 L (bvals (refEncT l k))):=hid (ownsRow_keepM HO.o (Chg.of_below H3.o:Chg (fun _ _=>False) wr w3) (fun q hq i e=>e))
    have HS3:Hid (N≤w3.heap.size):=hid (by have:=H3.o.size;have:=HSZ.o;omega)
    clear h3
    clear h4
    refine hK _ _ HC4.o ?_
    clear hK K
    refine Kit.gplan_op (by rfl) (by rfl) fun K hK=> ?_
    refine wp_app_bytes (w0:=w3) (.tmp 48) (.tmp 53) (by rfl) N u4 L (refEncT l k) (by rfl) HO3.o HS3.o (by have:=HLB.o;omega) a3 m3 p3 (num s.size) HM3.o (by have h:=num_pos s.size;rw [HM3.o] at h;exact h) (by have:=HM10.o;omega) (by rfl) HB3.o ?_
    intro v5 w5 ho5 h5 g5
    have HO5:=hid ho5
    have H5:Hid (Below N wr w5):=hid ((H3.o.mono HSZ.o).trans h5)
    have HS5:Hid (N≤w5.heap.size):=hid (by have:=H5.o.size;have:=HSZ.o;omega)
    have HR5:=hid ((g5.block N2 (gS HR4.o).1 (fun e=>own_ne HO3.o HR4.o (by decide) N2 e.symm rfl)).trans HR4.o)
    have HCC:Hid (w5.cell? ⟨N2,4,none⟩=some (.string s)):=hid (row6 HR5.o).2.2.2.2.1
    clear ho5 h5 g5
    refine hK _ _ HCC.o ?_
    clear hK K
    refine Kit.gplan_op (by rfl) (by rfl) fun K hK=> ?_
    refine wp_app_txt (w0:=w5) (.tmp 54) (.tmp 56) (by rfl) N v5 (L+m3) (refEncT l k++num s.size) (by rfl) HO5.o HS5.o (by have:=HLB.o;have:=HM10.o;omega) s s.size rfl (by have:=HSS.o;omega) (by rfl) ?_
    intro v6 w6 ho6 h6 g6
    have HO6:Hid (w6.ownsRow N 5 1 v6 (L+m3+s.size) (bvals (refEncT l (k+1)))):=hid (by rw [HSU.o];show w6.ownsRow N 5 1 v6 _ (bvals (refEncT l k++(num s.size++nb s)));rw [← List.append_assoc];exact ho6)
    have H6:Hid (Below N w w6):=hid ((HBE.o.trans H5.o).trans h6)
    have hc6:=(row6 ((g6.block N2 (gS HR5.o).1 (fun e=>own_ne HO5.o HR5.o (by decide) N2 e.symm rfl)).trans HR5.o)).2.2.2.2.1
    clear ho6 h6 g6
    refine hK _ _ hc6 ?_
    clear hc6
    clear hK K
    iterate 1 (refine Kit.ghd (h:= ?_))
    refine Kit.gdn (h:=?_)
    go_wp2_with fail
    go_roundw
    case rel=>exact ⟨k+1,L+m3+s.size,hlt,by go_num,HO6.o,hid (by rw [HSU.o,List.length_append,HLL.o];show L+(num s.size++nb s).length=_;rw [List.length_append,HM3.o,nb_length];omega),H6.o⟩
    case measure=>simp [intOf];omega
   ·have HSS:Hid (s.size=32):=hid HOX.o
    obtain ⟨c0,c1,c2,c3,c4,c5⟩:=HSX.o (.int .i64 6) (.int .u64 0) (.int .i64 0) (.bool false) (.string s) (.int .i64 0) (by rw [HXX.o];rfl)
    go_upto_region 6 with fail
    refine wp_over (fun V=>Hid (V.heap[wr.heap.size]? =some (.cells #[.int .i64 6,.int .u64 0,.int .i64 0,.bool false,.string s,.int .i64 0] 187 (0,0)))∧Hid (V.heap.size=wr.heap.size+1)∧Hid (Below wr.heap.size wr V)∧Hid (V.ownsRow N 5 1 u4 L (bvals (refEncT l k)))) ⟨heap_alloc_new _ _,by show _=_;simp,(Below.refl _ _).alloc (Nat.le_refl _) _,HO.o.alloc _⟩ ?_
    rintro W2 ⟨HG2,HZ2,HB2,HO2⟩
    clear c0 c1 c2 c3 c4 c5
    obtain ⟨c0,c1,c2,c3,c4,c5⟩:=row6 HG2.o
    obtain ⟨N2,hN2⟩:=ex_eq wr.heap.size
    rw [hN2] at HG2 HZ2 HB2 c0 c1 c2 c3 c4 c5 ⊢
    have HN2:=hid hN2
    clear hN2
    have hss:(s.size:Int)=32:=by have:=HSS.o;omega
    have HBW:Hid (Below wr.heap.size wr W2):=hid (by rw [HN2.o];exact HB2.o)
    have HSW:Hid (N≤W2.heap.size):=hid (by have:=HBW.o.size;have:=HSZ.o;omega)
    go_wp2_with (first
     | (at_builtin
        refine app_txt (w0:=W2) rfl _ _ rfl N u4 L (refEncT l k) (by rfl) HO2.o HSW.o (by have:=HLB.o;omega) s 32 HSS.o (by decide) (by rfl) ?_
        intro v5 w5 ho5 h5
        have HO5:Hid (w5.ownsRow N 5 1 v5 (L+32) (bvals (refEncT l (k+1)))):=hid (by rw [HSU.o];exact ho5)
        have H5:Hid (Below N w w5):=hid ((HBE.o.trans (HBW.o.mono HSZ.o)).trans h5)
        clear ho5 h5))
    go_roundw
    case rel=>exact ⟨k+1,L+32,hlt,by go_num,HO5.o,hid (by rw [HSU.o,List.length_append,HLL.o];exact congrArg (L+ ·) ((nb_length s).trans HSS.o)),H5.o⟩
    case measure=>simp [intOf];omega
   ·have HDD:Hid (d<18446744073709551616):=hid (by have h:=HOX.o;unfold RV.ok at h;omega)
    have hneg: ¬(d:Int)<0:=by omega
    have hwu:IntKind.u64.wrap (d:Int)=(d:Int):=by have:=HDD.o;rw [IntKind.wrap_u64];omega
    obtain ⟨c0,c1,c2,c3,c4,c5⟩:=HSX.o (.int .i64 7) (.int .u64 0) (.int .i64 (d:Int)) (.bool false) (.string { data:= #[] }) (.int .i64 0) (by rw [HXX.o];rfl)
    go_upto_region 6 with fail
    refine wp_over (fun V=>Hid (V.heap[wr.heap.size]? =some (.cells #[.int .i64 7,.int .u64 0,.int .i64 (d:Int),.bool false,.string { data:= #[] },.int .i64 0] 187 (0,0)))∧Hid (V.heap.size=wr.heap.size+1)∧Hid (Below wr.heap.size wr V)∧Hid (V.ownsRow N 5 1 u4 L (bvals (refEncT l k)))) ⟨heap_alloc_new _ _,by show _=_;simp,(Below.refl _ _).alloc (Nat.le_refl _) _,HO.o.alloc _⟩ ?_
    rintro W2 ⟨HG2,HZ2,HB2,HO2⟩
    clear c0 c1 c2 c3 c4 c5
    obtain ⟨c0,c1,c2,c3,c4,c5⟩:=row6 HG2.o
    obtain ⟨N2,hN2⟩:=ex_eq wr.heap.size
    rw [hN2] at HG2 HZ2 HB2 c0 c1 c2 c3 c4 c5 ⊢
    have HN2:=hid hN2
    clear hN2
    go_wp2_with (first
     | (go_at_call 213
        (with_reducible refine (refNumber_any d HDD.o _).mono ?_)
        rintro e w3 ⟨v3,m3,rfl,hm3,ho3,h3⟩
        have hm10:=num_len10 HDD.o
        obtain ⟨a3,p3,rfl,hl3,_,hb3,hn3,_⟩:=own_bytes ho3 (num_lt d) (by unfold maxLen;omega)
        have HM10:Hid (m3≤10):=hid (by rw [hm3];exact hm10)
        have HM3:Hid ((num d).length=m3):=hid hm3.symm
        have HB3:=hid hb3
        have HA3:=hid hn3
        clear hm3 ho3 hm10 hl3 hb3 hn3
        have H3:Hid (Below wr.heap.size wr w3):=hid (by rw [HN2.o];exact HB2.o.trans (h3.mono (by have:=HZ2.o;omega)))
        have HO3:Hid (w3.ownsRow N 5 1 u4 L (bvals (refEncT l k))):=hid (ownsRow_keepM HO.o (Chg.of_below H3.o:Chg (fun _ _=>False) wr w3) (fun q hq i e=>e))
        have HS3:Hid (N≤w3.heap.size):=hid (by have:=H3.o.size;have:=HSZ.o;omega)
        clear h3
        clear c0 c1 c2 c3 c4 c5)
     | (at_builtin
        refine app_bytes (w0:=w3) rfl _ _ rfl N u4 L (refEncT l k) (by rfl) HO3.o HS3.o (by have:=HLB.o;omega) a3 m3 p3 (num d) HM3.o (by have:=HM10.o;omega) (by rfl) HB3.o HA3.o ?_
        intro v5 w5 ho5 h5
        have HO5:Hid (w5.ownsRow N 5 1 v5 (L+m3) (bvals (refEncT l (k+1)))):=hid (by rw [HSU.o];exact ho5)
        have H5:Hid (Below N w w5):=hid ((HBE.o.trans (H3.o.mono HSZ.o)).trans h5)
        clear ho5 h5))
    go_roundw
    case rel=>exact ⟨k+1,L+m3,hlt,by go_num,HO5.o,hid (by rw [HSU.o,List.length_append,HLL.o];exact congrArg (L+ ·) HM3.o),H5.o⟩
    case measure=>simp [intOf];omega
  ·have hki: ¬(k:Int)<(n:Int):=by omega
   have HE:Hid (refEncT l k=T):=hid (by rw [refEncT_all l k (by rw [HNL.o];omega),HTE.o])
   rw [HE.o] at HO HLL
   have HTS:Hid (∀x ∈ T,x<256):=hid (by rw [← HE.o];exact refEncT_lt l k)
   have hgt: ¬(1048576:Int)<(L:Int):=by have:=HTL.o;rw [HLL.o] at this;omega
   obtain ⟨ad,cap,rfl,h1,h2,h3,h4,_⟩:=own_bytes HO.o HTS.o (by have:=HTL.o;unfold maxLen;omega)
   have H3:=hid h3
   have H4:=hid h4
   have H2:Hid (L≤cap):=hid (by rw [← h1];exact h2)
   clear h1 h2 h3 h4
   go_wp2_with fail
   go_ret2
   exact ⟨ad,L,cap,rfl,HLL.o,H2.o,H3.o,H4.o,by rw [HN.o];exact HBE.o⟩
theorem vs_of_row {w:World} {b:Nat} {row:Array Value} {t:TypeId} {fr:Nat × Nat} {l:List RV} (hg:w.heap[b]? =some (.cells row t fr)) (h:(l.flatMap RV.cells).toArray=row):VsAt w (some ⟨b,0,none⟩) l:=by
 subst h
 refine .inr ⟨b,0,rfl,fun i hi j u hj=> ?_⟩
 rw [cell_of_row _ _ _ _ _ _ hg,Nat.zero_add]
 have hj6:j<6:=by have:=(List.getElem?_eq_some_iff.1 hj).1;rw [RV.len6] at this;exact this
 have H: ∀(l:List RV) (i:Nat) (hi:i<l.length),(l[i]).cells[j]? =some u→(l.flatMap RV.cells)[i*6+j]? =some u:=by
  intro l
  induction l with
  | nil=>intro i hi;simp at hi
  | cons x l ih=>
    intro i hi h
    rw [List.flatMap_cons]
    cases i with
    | zero=>rw [List.getElem?_append_left (by rw [RV.len6];omega),Nat.zero_mul,Nat.zero_add];exact h
    | succ i=>
      rw [List.getElem?_append_right (by rw [RV.len6];omega),RV.len6,show (i+1)*6+j - 6=i*6+j by omega]
      exact ih i (by simpa using hi) (by simpa using h)
 rw [List.getElem?_toArray]
 exact H l i hi hj
theorem refSplitM_any (n:Nat) (h2:2≤n) (h9:n≤256) (w:World):Calls Tryz.prog 191 #[.int .i64 (n:Int)] w fun e w'=>e= .returned (.int .i64 ((Mrk.spl n:Nat):Int))∧w=w':=by
 go_enter Tryz.func191,Tryz.ntmps191
 go_upto_region 2 with fail
 go_loopw [3] (fun x wr=> ∃(j J:Nat),Hid (2 ^ j=J∧J<n)∧x= .int .i64 (J:Int)∧wr=w) (fun x _=>n - (intOf x).toNat)
 case atStart=>exact ⟨0,1,hid ⟨rfl,by omega⟩,rfl,rfl⟩
 case round=>
  obtain ⟨j,J,HJ,rfl,rfl⟩:=hrel
  have hJ0:0<J:=by rw [← HJ.o.1];exact Nat.two_pow_pos j
  have hJn:J<n:=HJ.o.2
  have hd:IntKind.i64.wrap ((n:Int) - (J:Int))=(n:Int) - (J:Int):=by rw [IntKind.wrap_i64];omega
  by_cases hlt:J<n - J
  ·have hc:(J:Int)<(n:Int) - (J:Int):=by omega
   have hm:IntKind.i64.wrap ((J:Int)*2)=(J:Int)*2:=by rw [IntKind.wrap_i64];omega
   go_wp2_with fail
   go_roundw
   case rel=>exact ⟨j+1,J+J,hid ⟨by rw [Nat.pow_succ,HJ.o.1];omega,by omega⟩,by simp;omega,trivial⟩
   case measure=>simp [intOf];omega
  ·have hc: ¬(J:Int)<(n:Int) - (J:Int):=by omega
   have HE:Hid (Mrk.spl n=J):=hid (by rw [← HJ.o.1];exact Mrk.spl_unique (by rw [HJ.o.1];exact hJn) (by rw [Nat.pow_succ,HJ.o.1];omega))
   go_wp2_with fail
   go_ret
   exact ⟨by rw [HE.o];rfl,rfl⟩
theorem refRootM_ok: ∀(n:Nat),1≤n→n≤256→ ∀(a:Option Addr) (cap:Nat) (ss:List ByteArray),ss.length=n→n≤cap→(∀s ∈ ss,s.size=32)→ ∀(w:World),StrsAt w a ss→Laid w→
    Calls Tryz.prog 97 #[.slice a n cap] w fun e w'=> ∃u:ByteArray,e= .returned (.string u)∧nb u=Mrk.rootM (ss.map nb)∧u.size=32∧Below w.heap.size w w':=by
 intro n
 induction n using Nat.strongRecOn with
 | ind n ih=>
   intro hn1 hn9 a cap ss hLe hcap h32 w hS hLd
   by_cases h2:2≤n
   rotate_left
   ·obtain rfl:n=1:=by omega
    obtain ⟨b,o,rfl,hcs⟩: ∃b o,a=some ⟨b,o,none⟩∧ ∀i,i<ss.length→w.cell? ⟨b,o+i,none⟩=some (.string (ss.getD i ByteArray.empty)):=by
     rcases hS with h | h
     ·rw [h] at hLe;simp at hLe
     ·exact h
    have hc:=hcs 0 (by omega)
    rw [Nat.add_zero] at hc
    have HZ:=hid (h32 _ (getD_mem ss 0 ByteArray.empty (by omega)))
    have HM:Hid (Mrk.rootM (ss.map nb)=nb (ss.getD 0 ByteArray.empty)):=hid (by rw [Mrk.rootM_one (by rw [List.length_map,hLe])];exact getD_map ss 0 (by omega))
    obtain ⟨s,hs⟩:=ex_eq (ss.getD 0 ByteArray.empty)
    rw [hs] at hc HZ HM
    clear hS h32 hcs hs hLe ih hLd h2 hn1 hn9
    go_enter Tryz.func97,Tryz.ntmps97
    go_wp2_with fail
    go_ret
    exact ⟨s,rfl,HM.o.symm,HZ.o,Below.refl _ _⟩
   have HSPL:Hid (∀w,Calls Tryz.prog 191 #[.int .i64 (n:Int)] w fun e w'=>e= .returned (.int .i64 ((Mrk.spl n:Nat):Int))∧w=w'):=hid (fun w=>refSplitM_any n h2 hn9 w)
   have hk1:=Mrk.spl_pos n
   have hk2:=Mrk.spl_lt h2
   have HRT:Hid (Mrk.rootM (ss.map nb)=Mrk.node (Mrk.rootM ((ss.take (Mrk.spl n)).map nb)) (Mrk.rootM ((ss.drop (Mrk.spl n)).map nb))):=hid (by
    rw [Mrk.rootM_two (by rw [List.length_map];omega),List.length_map,hLe,map_take_nb,map_drop_nb])
   obtain ⟨K,hK⟩:=ex_eq (Mrk.spl n)
   rw [hK] at HSPL hk1 hk2 HRT
   obtain ⟨J,hJ⟩:=ex_eq (n - K)
   have hl1:(ss.take K).length=K:=by rw [List.length_take];omega
   have hl2:(ss.drop K).length=J:=by rw [List.length_drop];omega
   have HLD:Hid (∀V,Below w.heap.size w V→Laid V):=hid (fun V h=>hLd.later h (Nat.le_refl _))
   have HA1:Hid (∀V,Below w.heap.size w V→StrsAt V (subA a 0 cap) (ss.take K)):=hid (fun V hV=>by
    have h1:=strsAt_sub (hS.later hV) (cap:=cap) (by omega) 0 K
    rwa [List.drop_zero] at h1)
   have HA2:Hid (∀V,Below w.heap.size w V→StrsAt V (subA a K cap) (ss.drop K)):=hid (fun V hV=>by
    have h1:=strsAt_sub (hS.later hV) (cap:=cap) (by omega) K n
    rwa [List.take_of_length_le (by omega)] at h1)
   have HR1:=hid (fun w hS hL=>ih K hk2 hk1 (by omega) (subA a 0 cap) cap (ss.take K) hl1 (by omega) (fun s hs=>h32 s (List.mem_of_mem_take hs)) w hS hL)
   have HR2:=hid (fun w hS hL=>ih J (by omega) (by omega) (by omega) (subA a K cap) (cap - K) (ss.drop K) hl2 (by omega) (fun s hs=>h32 s (List.mem_of_mem_drop hs)) w hS hL)
   have hsh:=fun W=>sliceS_h a n cap K (by omega) W
   have hsl0:=fun W=>sliceS_l a n cap K (by omega) W
   rw [hJ] at hsl0
   have hn0:((n:Int)==0)=false:=by rw [beq_eq_false_iff_ne];omega
   have hn1':((n:Int)==1)=false:=by rw [beq_eq_false_iff_ne];omega
   clear hK hl1 hl2 h32 hS hLe ih hLd hJ hk1 hk2 h2 hn1
   go_enter Tryz.func97,Tryz.ntmps97
   go_upto_region 7 with (first
    | (go_at_call 191
       (refine (HSPL.o _).mono ?_)
       rintro e w2 ⟨rfl,rfl⟩))
   refine Kit.wp_region_gplan (fun V=>True) [(true,0),(true,1),(true,2),(true,4),(true,5),(true,6),(false,3),(false,7),(false,8),(true,9)] (by kernel_rfl) (by kernel_rfl) (by kernel_rfl) (by kernel_rfl) trivial ?_
   iterate 6 (refine Kit.ghd (h:= ?_))
   refine Kit.gplan_op (by rfl) (by rfl) fun K' hK=> ?_
   go_simp
   go_at_call 97
   refine (HR1.o _ (HA1.o _ (Below.refl _ _).drew) (HLD.o _ (Below.refl _ _).drew)).mono ?_
   rintro e w3 ⟨u3,rfl,hu3,hz3,h3⟩
   have HU3:=hid hu3
   have HZ3:=hid hz3
   have H3:Hid (Below w.heap.size w w3):=hid ((Below.refl _ w).drew.trans h3)
   clear hu3 hz3 h3
   refine hK _ _ trivial ?_
   clear hK K'
   refine Kit.gplan_op (by rfl) (by rfl) fun K' hK=> ?_
   go_simp
   go_at_call 97
   refine (HR2.o _ (HA2.o _ H3.o) (HLD.o _ H3.o)).mono ?_
   rintro e w4 ⟨u4,rfl,hu4,hz4,h4⟩
   have HU4:=hid hu4
   have HZ4:=hid hz4
   have H4:=hid (H3.o.trans (h4.mono H3.o.size))
   clear hu4 hz4 h4
   refine hK _ _ trivial ?_
   clear hK K'
   refine Kit.gplan_op (by rfl) (by rfl) fun K' hK=> ?_
   go_simp
   go_at_call 192
   refine (refNode_l u3 u4 HZ3.o HZ4.o (Mrk.rootM (ss.map nb)) (by rw [HU3.o,HU4.o,HRT.o]) _).mono ?_
   rintro e w5 ⟨u5,rfl,hu5,hz5,h5⟩
   have HU5:=hid hu5
   have HZ5:=hid hz5
   have H5:=hid (H4.o.trans (h5.mono H4.o.size))
   clear hu5 hz5 h5
   refine hK _ _ trivial ?_
   clear hK K'
   iterate 1 (refine Kit.ghd (h:= ?_))
   refine Kit.gdn (h:=?_)
   go_wp2_with fail
   go_ret
   exact ⟨u5,rfl,HU5.o,HZ5.o,H5.o⟩
theorem num43_any (d:Nat) (hd:d<9223372036854775808) (w:World):Calls Tryz.prog 124 #[.int .i64 (d:Int)] w fun e w'=>e= .returned (.agg #[.int .i64 1,.int .u64 (d:Int),.int .i64 0,.bool false,.string { data:= #[] },.int .i64 0])∧Below w.heap.size w w':=by
 have hwu:IntKind.u64.wrap (d:Int)=(d:Int):=by rw [IntKind.wrap_u64];omega
 clear hd
 go_enter Tryz.func124,Tryz.ntmps124
 go_wp2_with fail
 refine bodyPost_ret (results_cell_row (p:=2) rfl _ _ w.heap.size 187 #[.int .i64 1,.int .u64 (d:Int),.int .i64 0,.bool false,.string { data:= #[] },.int .i64 0] (0,0) _ (by rfl) (heap_alloc_new _ _) Tryz.underlying187 rfl (by kernel_rfl)) rfl ?_
 exact ⟨rfl,(Below.refl _ _).alloc (Nat.le_refl _) _⟩
theorem sum43_any (s:ByteArray) (w:World):Calls Tryz.prog 126 #[.string s] w fun e w'=>e= .returned (.agg #[.int .i64 6,.int .u64 0,.int .i64 0,.bool false,.string s,.int .i64 0])∧Below w.heap.size w w':=by
 go_enter Tryz.func126,Tryz.ntmps126
 go_wp2_with fail
 refine bodyPost_ret (results_cell_row (p:=2) rfl _ _ w.heap.size 187 #[.int .i64 6,.int .u64 0,.int .i64 0,.bool false,.string s,.int .i64 0] (0,0) _ (by rfl) (heap_alloc_new _ _) Tryz.underlying187 rfl (by kernel_rfl)) rfl ?_
 exact ⟨rfl,(Below.refl _ _).alloc (Nat.le_refl _) _⟩
theorem signed43_any (hol vlt:Int) (str:ByteArray) (ix sz day ser cnt pl:Int) (root:ByteArray) (ap:Option Addr) (n1 c1:Nat) (si:Int) (aq:Option Addr) (n2 c2:Nat) (ar:Option Addr) (n3 c3:Nat) (pa pt sq:List ByteArray) (hv:SgV ⟨hol,vlt,str,ix,sz,day,ser,cnt,pl,root,pa,si,pt,sq⟩) (w:World):Calls Tryz.prog 123 #[.agg #[.int .i64 hol,.int .i64 vlt,.string str,.int .i64 ix,.int .i64 sz,.int .i64 day,.int .i64 ser,.int .i64 cnt,.int .i64 pl,.string root,.slice ap n1 c1,.int .i64 si,.slice aq n2 c2,.slice ar n3 c3]] w fun e w'=> ∃(b:Nat) (l:List RV),e= .returned (.slice (some ⟨b,0,none⟩) 7 7)∧l.length=7∧(∀x ∈ l,x.ok)∧l.flatMap RV.enc=encS ⟨hol,vlt,str,ix,sz,day,ser,cnt,pl,root,pa,si,pt,sq⟩∧VsAt w' (some ⟨b,0,none⟩) l∧Below w.heap.size w w':=by
 obtain ⟨d0,rfl⟩: ∃n:Nat,hol=(n:Int):=⟨hol.toNat,by have:=hv.h0;simp only at this;omega⟩
 obtain ⟨d1,rfl⟩: ∃n:Nat,vlt=(n:Int):=⟨vlt.toNat,by have:=hv.gd.v0;simp only at this;omega⟩
 obtain ⟨d2,rfl⟩: ∃n:Nat,ix=(n:Int):=⟨ix.toNat,by have:=hv.gd.i0;simp only at this;omega⟩
 obtain ⟨d3,rfl⟩: ∃n:Nat,sz=(n:Int):=⟨sz.toNat,by have:=hv.gd.s0;simp only at this;omega⟩
 obtain ⟨d4,rfl⟩: ∃n:Nat,day=(n:Int):=⟨day.toNat,by have:=hv.d0;simp only at this;omega⟩
 obtain ⟨d5,rfl⟩: ∃n:Nat,ser=(n:Int):=⟨ser.toNat,by have:=hv.s0;simp only at this;omega⟩
 have HQ:Hid (d0≤1099511627776∧d1≤1099511627776∧d2≤1099511627776∧d3≤1099511627776∧d4≤1099511627776∧d5≤1099511627776∧str.size=32):=hid ⟨by have:=hv.h1;simp only at this;omega,by have:=hv.gd.v1;simp only at this;omega,by have:=hv.gd.i1;simp only at this;omega,by have:=hv.gd.s1;simp only at this;omega,by have:=hv.d1;simp only at this;omega,by have:=hv.s1;simp only at this;omega,hv.gd.st⟩
 have HOK:Hid (∀x ∈ [RV.uint d0,RV.uint d1,RV.sum str,RV.uint d2,RV.uint d3,RV.uint d4,RV.uint d5],x.ok):=hid (by
  have:=HQ.o
  intro x hx
  simp only [List.mem_cons,List.not_mem_nil,or_false] at hx
  rcases hx with rfl | rfl | rfl | rfl | rfl | rfl | rfl<;> unfold RV.ok<;> simp only<;> omega)
 have HTT:Hid ([RV.uint d0,RV.uint d1,RV.sum str,RV.uint d2,RV.uint d3,RV.uint d4,RV.uint d5].flatMap RV.enc=encS ⟨(d0:Int),(d1:Int),str,(d2:Int),(d3:Int),(d4:Int),(d5:Int),cnt,pl,root,pa,si,pt,sq⟩):=hid (by
  show num d0++(num d1++(nb str++(num d2++(num d3++(num d4++(num d5++[]))))))=_
  unfold encS encS.headN
  simp)
 obtain ⟨T,hT⟩:=ex_eq (encS ⟨(d0:Int),(d1:Int),str,(d2:Int),(d3:Int),(d4:Int),(d5:Int),cnt,pl,root,pa,si,pt,sq⟩)
 rw [hT] at HTT ⊢
 clear hT hv
 go_enter Tryz.func123,Tryz.ntmps123
 go_upto_region 1 with fail
 refine wp_over (fun W=>Hid (W.heap[w.heap.size]? =some (.cells #[.int .i64 (d0:Int),.int .i64 (d1:Int),.string str,.int .i64 (d2:Int),.int .i64 (d3:Int),.int .i64 (d4:Int),.int .i64 (d5:Int),.int .i64 cnt,.int .i64 pl,.string root,.slice ap n1 c1,.int .i64 si,.slice aq n2 c2,.slice ar n3 c3] 47 (0,0)))∧Hid (Below w.heap.size w W)∧Hid (W.heap.size=w.heap.size+1)) ⟨heap_alloc_new _ _,(Below.refl _ _).alloc (Nat.le_refl _) _,by show _=_;simp⟩ ?_
 rintro W ⟨HG,HB,HWS⟩
 have HBW0:Hid (∀V,Below (w.heap.size+1) W V→Below w.heap.size w V):=hid (fun V h=>HB.o.trans (h.mono (Nat.le_succ _)))
 obtain ⟨N,hN⟩:=ex_eq w.heap.size
 have HN:=hid hN
 have HBW:Hid (∀V,Below (N+1) W V→Below w.heap.size w V):=hid (fun V h=>HBW0.o V (by rw [hN];exact h))
 rw [hN] at HG HB HWS ⊢
 clear hN HBW0
 have HCC:Hid (∀V,Below (N+1) W V→V.cell? ⟨N,0,none⟩=some (.int .i64 (d0:Int))∧V.cell? ⟨N,1,none⟩=some (.int .i64 (d1:Int))∧V.cell? ⟨N,2,none⟩=some (.string str)∧V.cell? ⟨N,3,none⟩=some (.int .i64 (d2:Int))∧V.cell? ⟨N,4,none⟩=some (.int .i64 (d3:Int))∧V.cell? ⟨N,5,none⟩=some (.int .i64 (d4:Int))∧V.cell? ⟨N,6,none⟩=some (.int .i64 (d5:Int))∧V.cell? ⟨N,7,none⟩=some (.int .i64 cnt)∧V.cell? ⟨N,8,none⟩=some (.int .i64 pl)∧V.cell? ⟨N,9,none⟩=some (.string root)∧V.cell? ⟨N,10,none⟩=some (.slice ap n1 c1)∧V.cell? ⟨N,11,none⟩=some (.int .i64 si)∧V.cell? ⟨N,12,none⟩=some (.slice aq n2 c2)∧V.cell? ⟨N,13,none⟩=some (.slice ar n3 c3)):=hid (fun V h=>row14 ((h.block N (Nat.lt_succ_self _)).trans HG.o))
 have HST:Hid (∀V V',Below (N+1) W V→Below V.heap.size V V'→Below (N+1) W V'):=hid (fun V V' h h'=>h.trans (h'.mono (by have:=h.size;have:=HWS.o;omega)))
 have HL:Hid (Below (N+1) W W.drew):=hid (Below.refl _ _).drew
 obtain ⟨VD,hVD⟩:=ex_eq W.drew
 rw [hVD] at HL
 refine Kit.wp_region_gplan (fun V=>V.cell? ⟨N,0,none⟩=some (.int .i64 (d0:Int))∧V.cell? ⟨N,1,none⟩=some (.int .i64 (d1:Int))∧V.cell? ⟨N,2,none⟩=some (.string str)∧V.cell? ⟨N,3,none⟩=some (.int .i64 (d2:Int))∧V.cell? ⟨N,4,none⟩=some (.int .i64 (d3:Int))∧V.cell? ⟨N,5,none⟩=some (.int .i64 (d4:Int))∧V.cell? ⟨N,6,none⟩=some (.int .i64 (d5:Int))∧V.cell? ⟨N,7,none⟩=some (.int .i64 cnt)∧V.cell? ⟨N,8,none⟩=some (.int .i64 pl)∧V.cell? ⟨N,9,none⟩=some (.string root)∧V.cell? ⟨N,10,none⟩=some (.slice ap n1 c1)∧V.cell? ⟨N,11,none⟩=some (.int .i64 si)∧V.cell? ⟨N,12,none⟩=some (.slice aq n2 c2)∧V.cell? ⟨N,13,none⟩=some (.slice ar n3 c3)) [(true,0),(true,1),(true,3),(true,4),(true,6),(true,7),(true,8),(true,10),(true,11),(true,12),(true,14),(true,15),(true,17),(true,18),(true,20),(true,21),(false,2),(false,5),(false,9),(false,13),(false,16),(false,19),(false,22),(false,23),(true,24)] (by kernel_rfl) (by kernel_rfl) (by kernel_rfl) (by kernel_rfl) (by rw [hVD];exact HCC.o _ HL.o) ?_
 rw [hVD]
 clear hVD
 iterate 16 (refine Kit.ghd (h:= ?_))
 refine Kit.gplan_op (by rfl) (by rfl) fun K hK=> ?_
 go_simp
 go_at_call 124
 with_reducible refine (num43_any d0 (by have:=HQ.o;omega) _).mono ?_
 rintro e w2 ⟨rfl,h2⟩
 have HM:Hid (Below (N+1) W w2):=hid (HST.o _ _ HL.o h2)
 clear h2 HL
 have HL:=HM
 clear HM
 refine hK _ _ (HCC.o _ HL.o) ?_
 clear hK K
 refine Kit.gplan_op (by rfl) (by rfl) fun K hK=> ?_
 go_simp
 go_at_call 124
 with_reducible refine (num43_any d1 (by have:=HQ.o;omega) _).mono ?_
 rintro e w2 ⟨rfl,h2⟩
 have HM:Hid (Below (N+1) W w2):=hid (HST.o _ _ HL.o h2)
 clear h2 HL
 have HL:=HM
 clear HM
 refine hK _ _ (HCC.o _ HL.o) ?_
 clear hK K
 refine Kit.gplan_op (by rfl) (by rfl) fun K hK=> ?_
 go_simp
 go_at_call 126
 with_reducible refine (sum43_any str _).mono ?_
 rintro e w2 ⟨rfl,h2⟩
 have HM:Hid (Below (N+1) W w2):=hid (HST.o _ _ HL.o h2)
 clear h2 HL
 have HL:=HM
 clear HM
 refine hK _ _ (HCC.o _ HL.o) ?_
 clear hK K
 refine Kit.gplan_op (by rfl) (by rfl) fun K hK=> ?_
 go_simp
 go_at_call 124
 with_reducible refine (num43_any d2 (by have:=HQ.o;omega) _).mono ?_
 rintro e w2 ⟨rfl,h2⟩
 have HM:Hid (Below (N+1) W w2):=hid (HST.o _ _ HL.o h2)
 clear h2 HL
 have HL:=HM
 clear HM
 refine hK _ _ (HCC.o _ HL.o) ?_
 clear hK K
 refine Kit.gplan_op (by rfl) (by rfl) fun K hK=> ?_
 go_simp
 go_at_call 124
 with_reducible refine (num43_any d3 (by have:=HQ.o;omega) _).mono ?_
 rintro e w2 ⟨rfl,h2⟩
 have HM:Hid (Below (N+1) W w2):=hid (HST.o _ _ HL.o h2)
 clear h2 HL
 have HL:=HM
 clear HM
 refine hK _ _ (HCC.o _ HL.o) ?_
 clear hK K
 refine Kit.gplan_op (by rfl) (by rfl) fun K hK=> ?_
 go_simp
 go_at_call 124
 with_reducible refine (num43_any d4 (by have:=HQ.o;omega) _).mono ?_
 rintro e w2 ⟨rfl,h2⟩
 have HM:Hid (Below (N+1) W w2):=hid (HST.o _ _ HL.o h2)
 clear h2 HL
 have HL:=HM
 clear HM
 refine hK _ _ (HCC.o _ HL.o) ?_
 clear hK K
 refine Kit.gplan_op (by rfl) (by rfl) fun K hK=> ?_
 go_simp
 go_at_call 124
 with_reducible refine (num43_any d5 (by have:=HQ.o;omega) _).mono ?_
 rintro e w2 ⟨rfl,h2⟩
 have HM:Hid (Below (N+1) W w2):=hid (HST.o _ _ HL.o h2)
 clear h2 HL
 have HL:=HM
 clear HM
 refine hK _ _ (HCC.o _ HL.o) ?_
 clear hK K
 rename World=>wl
 refine Kit.gplan_op (by rfl) (by rfl) fun K hK=> ?_
 go_simp
 have HZB:Hid (Below (N+1) W (wl.alloc (.cells #[.int .i64 1,.int .u64 (d0:Int),.int .i64 0,.bool false,.string { data:= #[] },.int .i64 0,.int .i64 1,.int .u64 (d1:Int),.int .i64 0,.bool false,.string { data:= #[] },.int .i64 0,.int .i64 6,.int .u64 0,.int .i64 0,.bool false,.string str,.int .i64 0,.int .i64 1,.int .u64 (d2:Int),.int .i64 0,.bool false,.string { data:= #[] },.int .i64 0,.int .i64 1,.int .u64 (d3:Int),.int .i64 0,.bool false,.string { data:= #[] },.int .i64 0,.int .i64 1,.int .u64 (d4:Int),.int .i64 0,.bool false,.string { data:= #[] },.int .i64 0,.int .i64 1,.int .u64 (d5:Int),.int .i64 0,.bool false,.string { data:= #[] },.int .i64 0] 187))):=hid (HL.o.alloc (by have:=HL.o.size;have:=HWS.o;omega) _)
 refine hK _ _ (HCC.o _ HZB.o) ?_
 clear hK K
 iterate 1 (refine Kit.ghd (h:= ?_))
 refine Kit.gdn (h:=?_)
 have HVA:Hid (VsAt (wl.alloc (.cells #[.int .i64 1,.int .u64 (d0:Int),.int .i64 0,.bool false,.string { data:= #[] },.int .i64 0,.int .i64 1,.int .u64 (d1:Int),.int .i64 0,.bool false,.string { data:= #[] },.int .i64 0,.int .i64 6,.int .u64 0,.int .i64 0,.bool false,.string str,.int .i64 0,.int .i64 1,.int .u64 (d2:Int),.int .i64 0,.bool false,.string { data:= #[] },.int .i64 0,.int .i64 1,.int .u64 (d3:Int),.int .i64 0,.bool false,.string { data:= #[] },.int .i64 0,.int .i64 1,.int .u64 (d4:Int),.int .i64 0,.bool false,.string { data:= #[] },.int .i64 0,.int .i64 1,.int .u64 (d5:Int),.int .i64 0,.bool false,.string { data:= #[] },.int .i64 0] 187)) (some ⟨wl.heap.size,0,none⟩) [RV.uint d0,RV.uint d1,RV.sum str,RV.uint d2,RV.uint d3,RV.uint d4,RV.uint d5]):=hid (vs_of_row (heap_alloc_new wl _) (by rfl))
 go_wp2_with fail
 go_ret
 exact ⟨_,rfl,_,rfl,HOK.o,HTT.o,HVA.o,HBW.o _ HZB.o⟩
theorem signedB_ok (hol vlt:Int) (str:ByteArray) (ix sz day ser cnt pl:Int) (root:ByteArray) (ap:Option Addr) (n1 c1:Nat) (si:Int) (aq:Option Addr) (n2 c2:Nat) (ar:Option Addr) (n3 c3:Nat) (pa pt sq:List ByteArray) (hv:SgV ⟨hol,vlt,str,ix,sz,day,ser,cnt,pl,root,pa,si,pt,sq⟩) (T:List Nat) (hT:encS ⟨hol,vlt,str,ix,sz,day,ser,cnt,pl,root,pa,si,pt,sq⟩=T) (w:World):Calls Tryz.prog 117 #[.agg #[.int .i64 hol,.int .i64 vlt,.string str,.int .i64 ix,.int .i64 sz,.int .i64 day,.int .i64 ser,.int .i64 cnt,.int .i64 pl,.string root,.slice ap n1 c1,.int .i64 si,.slice aq n2 c2,.slice ar n3 c3]] w fun e w'=> ∃ad L cap,e= .returned (.slice ad L cap)∧T.length=L∧L≤cap∧BytesAt w' ad T∧(ad=none→cap=0)∧Below w.heap.size w w':=by
 have HSI:Hid (∀w,Calls Tryz.prog 123 #[.agg #[.int .i64 hol,.int .i64 vlt,.string str,.int .i64 ix,.int .i64 sz,.int .i64 day,.int .i64 ser,.int .i64 cnt,.int .i64 pl,.string root,.slice ap n1 c1,.int .i64 si,.slice aq n2 c2,.slice ar n3 c3]] w fun e w'=> ∃(b:Nat) (l:List RV),e= .returned (.slice (some ⟨b,0,none⟩) 7 7)∧l.length=7∧(∀x ∈ l,x.ok)∧l.flatMap RV.enc=T∧VsAt w' (some ⟨b,0,none⟩) l∧Below w.heap.size w w'):=hid (fun w=>by
  have h:=signed43_any hol vlt str ix sz day ser cnt pl root ap n1 c1 si aq n2 c2 ar n3 c3 pa pt sq hv w
  rw [hT] at h
  exact h)
 have HTL:Hid (T.length≤1048576):=hid (by rw [← hT];have:=encS_lenV hv;omega)
 clear hv hT
 go_enter Tryz.func117,Tryz.ntmps117
 go_upto_region 1 with fail
 refine wp_over (fun W=>Hid (W.heap[w.heap.size]? =some (.cells #[.int .i64 hol,.int .i64 vlt,.string str,.int .i64 ix,.int .i64 sz,.int .i64 day,.int .i64 ser,.int .i64 cnt,.int .i64 pl,.string root,.slice ap n1 c1,.int .i64 si,.slice aq n2 c2,.slice ar n3 c3] 47 (0,0)))∧Hid (Below w.heap.size w W)∧Hid (W.heap.size=w.heap.size+1)) ⟨heap_alloc_new _ _,(Below.refl _ _).alloc (Nat.le_refl _) _,by show _=_;simp⟩ ?_
 rintro W ⟨HG,HB,HWS⟩
 have HBW0:Hid (∀V,Below (w.heap.size+1) W V→Below w.heap.size w V):=hid (fun V h=>HB.o.trans (h.mono (Nat.le_succ _)))
 obtain ⟨N,hN⟩:=ex_eq w.heap.size
 have HN:=hid hN
 have HBW:Hid (∀V,Below (N+1) W V→Below w.heap.size w V):=hid (fun V h=>HBW0.o V (by rw [hN];exact h))
 rw [hN] at HG HB HWS ⊢
 clear hN HBW0
 have HST:Hid (∀V V',Below (N+1) W V→Below V.heap.size V V'→Below (N+1) W V'):=hid (fun V V' h h'=>h.trans (h'.mono (by have:=h.size;have:=HWS.o;omega)))
 have HL:Hid (Below (N+1) W W):=hid (Below.refl _ _)
 obtain ⟨q0,q1,q2,q3,q4,q5,q6,q7,q8,q9,q10,q11,q12,q13⟩:=row14 HG.o
 go_wp2_with (first
  | (go_at_call 123
     (with_reducible refine (HSI.o _).mono ?_)
     rintro e w2 ⟨b,l,rfl,hl,hok,hte,hva,h2⟩
     have HLL:=hid hl
     have HOK:=hid hok
     have HTE:=hid hte
     have HVA:=hid hva
     have H2:Hid (Below (N+1) W w2):=hid (HST.o _ _ HL.o h2)
     clear hl hok hte hva h2 q0 q1 q2 q3 q4 q5 q6 q7 q8 q9 q10 q11 q12 q13)
  | (go_at_call 127
     (with_reducible refine (refEncode_any (some ⟨b,0,none⟩) 7 7 l HLL.o (by decide) HOK.o T HTE.o HTL.o _ HVA.o).mono ?_)
     rintro e w3 ⟨ad,L,cap,rfl,hl3,hc3,hb3,hn3,h3⟩
     have HL3:=hid hl3
     have HC3:=hid hc3
     have HB3:=hid hb3
     have HN3:=hid hn3
     have H3:Hid (Below (N+1) W w3):=hid (HST.o _ _ H2.o h3)
     clear hl3 hc3 hb3 hn3 h3))
 go_ret
 exact ⟨ad,L,cap,rfl,HL3.o,HC3.o,HB3.o,HN3.o,HBW.o _ H3.o⟩
theorem refLeafR_ok (hol vlt:Int) (str:ByteArray) (ix sz day ser cnt pl:Int) (root:ByteArray) (ap:Option Addr) (n1 c1:Nat) (si:Int) (aq:Option Addr) (n2 c2:Nat) (ar:Option Addr) (n3 c3:Nat) (pa pt sq:List ByteArray) (hv:SgV ⟨hol,vlt,str,ix,sz,day,ser,cnt,pl,root,pa,si,pt,sq⟩) (T:List Nat) (hT:leafR ⟨hol,vlt,str,ix,sz,day,ser,cnt,pl,root,pa,si,pt,sq⟩=T) (w:World):Calls Tryz.prog 30 #[.agg #[.int .i64 hol,.int .i64 vlt,.string str,.int .i64 ix,.int .i64 sz,.int .i64 day,.int .i64 ser,.int .i64 cnt,.int .i64 pl,.string root,.slice ap n1 c1,.int .i64 si,.slice aq n2 c2,.slice ar n3 c3]] w fun e w'=> ∃u:ByteArray,e= .returned (.string u)∧nb u=T∧u.size=32∧Below w.heap.size w w':=by
 have HSB:=hid (fun w=>signedB_ok hol vlt str ix sz day ser cnt pl root ap n1 c1 si aq n2 c2 ar n3 c3 pa pt sq hv _ rfl w)
 have HEL:Hid ((encS ⟨hol,vlt,str,ix,sz,day,ser,cnt,pl,root,pa,si,pt,sq⟩).length≤100):=hid (encS_lenV hv)
 have HT:Hid (Mrk.leaf (encS ⟨hol,vlt,str,ix,sz,day,ser,cnt,pl,root,pa,si,pt,sq⟩)=T):=hid hT
 obtain ⟨E,hE⟩:=ex_eq (encS ⟨hol,vlt,str,ix,sz,day,ser,cnt,pl,root,pa,si,pt,sq⟩)
 rw [hE] at HSB HEL HT
 clear hv hT hE
 go_enter Tryz.func30,Tryz.ntmps30
 go_upto_region 1 with fail
 refine wp_over (fun W=>Hid (W.heap[w.heap.size]? =some (.cells #[.int .i64 hol,.int .i64 vlt,.string str,.int .i64 ix,.int .i64 sz,.int .i64 day,.int .i64 ser,.int .i64 cnt,.int .i64 pl,.string root,.slice ap n1 c1,.int .i64 si,.slice aq n2 c2,.slice ar n3 c3] 47 (0,0)))∧Hid (Below w.heap.size w W)∧Hid (W.heap.size=w.heap.size+1)) ⟨heap_alloc_new _ _,(Below.refl _ _).alloc (Nat.le_refl _) _,by show _=_;simp⟩ ?_
 rintro W ⟨HG,HB,HWS⟩
 have HBW0:Hid (∀V,Below (w.heap.size+1) W V→Below w.heap.size w V):=hid (fun V h=>HB.o.trans (h.mono (Nat.le_succ _)))
 obtain ⟨N,hN⟩:=ex_eq w.heap.size
 have HN:=hid hN
 have HBW:Hid (∀V,Below (N+1) W V→Below w.heap.size w V):=hid (fun V h=>HBW0.o V (by rw [hN];exact h))
 rw [hN] at HG HB HWS ⊢
 clear hN HBW0
 have HST:Hid (∀V V',Below (N+1) W V→Below V.heap.size V V'→Below (N+1) W V'):=hid (fun V V' h h'=>h.trans (h'.mono (by have:=h.size;have:=HWS.o;omega)))
 have HL:Hid (Below (N+1) W W):=hid (Below.refl _ _)
 obtain ⟨q0,q1,q2,q3,q4,q5,q6,q7,q8,q9,q10,q11,q12,q13⟩:=row14 HG.o
 go_wp2_with (first
  | (go_at_call 117
     (with_reducible refine (HSB.o _).mono ?_)
     rintro e w2 ⟨ad,L,cap,rfl,hl3,hc3,hb3,hn3,h2⟩
     have HL3:=hid hl3
     have HB3:=hid hb3
     have HN3:=hid hn3
     have H2:Hid (Below (N+1) W w2):=hid (HST.o _ _ HL.o h2)
     clear hl3 hc3 hb3 hn3 h2 q0 q1 q2 q3 q4 q5 q6 q7 q8 q9 q10 q11 q12 q13)
  | (go_at_call 116
     (with_reducible refine (refLeaf_l ad cap E L HL3.o HN3.o (by have:=HEL.o;have:=HL3.o;omega) _ HB3.o T HT.o).mono ?_)
     rintro e w3 ⟨u,rfl,hu,hz,h3⟩
     have HU:=hid hu
     have HZ:=hid hz
     have H3:Hid (Below (N+1) W w3):=hid (HST.o _ _ H2.o h3)
     clear hu hz h3))
 go_ret
 exact ⟨u,rfl,HU.o,HZ.o,HBW.o _ H3.o⟩
theorem refBatch_ok (root:ByteArray) (hr:root.size=32) (n:Nat) (hn:n≤1000) (T:List Nat) (hT:batchR (nb root) n=T) (w:World):Calls Tryz.prog 99 #[.string root,.int .i64 (n:Int)] w fun e w'=> ∃u:ByteArray,e= .returned (.string u)∧nb u=T∧u.size=32∧Below w.heap.size w w':=by
 have HOK:Hid (∀x ∈ [RV.text { data:= #[114,101,99,101,105,112,116,115] },RV.sum root,RV.uint n],x.ok):=hid (by
  intro x hx
  simp only [List.mem_cons,List.not_mem_nil,or_false] at hx
  rcases hx with rfl | rfl | rfl<;> unfold RV.ok<;> simp only
  ·show ByteArray.size { data:= #[114,101,99,101,105,112,116,115] }≤_;rw [word_size];decide
  ·exact hr
  ·omega)
 have HTT:Hid ([RV.text { data:= #[114,101,99,101,105,112,116,115] },RV.sum root,RV.uint n].flatMap RV.enc=encB (nb root) n):=hid (by
  show (num (ByteArray.size { data:= #[114,101,99,101,105,112,116,115] })++nb { data:= #[114,101,99,101,105,112,116,115] })++(nb root++(num n++[]))=_
  rw [word_size,word_lit]
  unfold encB
  simp)
 have HEL:=hid (encB_len (nb root) (by rw [nb_length];exact hr) n hn)
 have HT:Hid (Sha.sum (encB (nb root) n)=T):=hid hT
 have HNN:=hid hn
 have HVL:Hid ([RV.text { data:= #[114,101,99,101,105,112,116,115] },RV.sum root,RV.uint n].length=3):=hid rfl
 obtain ⟨E,hE⟩:=ex_eq (encB (nb root) n)
 rw [hE] at HEL HT HTT
 clear hE hT hr hn
 go_enter Tryz.func99,Tryz.ntmps99
 go_wp2_with (first
  | (go_at_call 126
     (with_reducible refine (sum43_any root _).mono ?_)
     rintro e w1 ⟨rfl,h1⟩
     have H1:=hid h1
     clear h1)
  | (go_at_call 124
     (with_reducible refine (num43_any n (by have:=HNN.o;omega) _).mono ?_)
     rintro e w2 ⟨rfl,h2⟩
     have H2:Hid (Below w.heap.size w w2):=hid (H1.o.trans (h2.mono H1.o.size))
     have HZB:Hid (Below w.heap.size w (w2.alloc (.cells #[.int .i64 5,.int .u64 0,.int .i64 0,.bool false,.string { data:= #[114,101,99,101,105,112,116,115] },.int .i64 0,.int .i64 6,.int .u64 0,.int .i64 0,.bool false,.string root,.int .i64 0,.int .i64 1,.int .u64 (n:Int),.int .i64 0,.bool false,.string { data:= #[] },.int .i64 0] 187))):=hid (H2.o.alloc H2.o.size _)
     have HVA:Hid (VsAt (w2.alloc (.cells #[.int .i64 5,.int .u64 0,.int .i64 0,.bool false,.string { data:= #[114,101,99,101,105,112,116,115] },.int .i64 0,.int .i64 6,.int .u64 0,.int .i64 0,.bool false,.string root,.int .i64 0,.int .i64 1,.int .u64 (n:Int),.int .i64 0,.bool false,.string { data:= #[] },.int .i64 0] 187)) (some ⟨w2.heap.size,0,none⟩) [RV.text { data:= #[114,101,99,101,105,112,116,115] },RV.sum root,RV.uint n]):=hid (vs_of_row (heap_alloc_new w2 _) (by rfl))
     clear h2)
  | (go_at_call 127
     (with_reducible refine (refEncode_any (some ⟨w2.heap.size,0,none⟩) 3 3 [RV.text { data:= #[114,101,99,101,105,112,116,115] },RV.sum root,RV.uint n] HVL.o (by decide) HOK.o E HTT.o (by have:=HEL.o;omega) _ HVA.o).mono ?_)
     rintro e w3 ⟨ad,L,cap,rfl,hl3,hc3,hb3,hn3,h3⟩
     have HL3:=hid hl3
     have HB3:=hid hb3
     have HN3:=hid hn3
     have H3:Hid (Below w.heap.size w w3):=hid (HZB.o.trans (h3.mono HZB.o.size))
     clear hl3 hc3 hb3 hn3 h3)
  | (go_at_call 190
     (with_reducible refine (refSum_l ad cap E L HL3.o HN3.o (by have:=HEL.o;have:=HL3.o;omega) _ HB3.o).mono ?_)
     rintro e w4 ⟨u,rfl,hu,h4⟩
     have HU:Hid (nb u=T):=hid (by rw [← HT.o];exact hu)
     have HZ:Hid (u.size=32):=hid (by rw [← nb_length,hu];exact Sha.sum_length _)
     have H4:Hid (Below w.heap.size w w4):=hid (H3.o.trans (h4.mono H3.o.size))
     clear hu h4))
 go_ret
 exact ⟨u,rfl,HU.o,HZ.o,H4.o⟩
end Go.Proofs.YtndlihclgdkpaaaGreatDoor
