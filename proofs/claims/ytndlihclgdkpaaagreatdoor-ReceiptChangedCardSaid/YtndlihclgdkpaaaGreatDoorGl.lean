/- Texts Rfq, Rgq, Qrm, Qrv, Qrl, Rgd, Rge, Qru, Qrq, merged. -/
import Derived.Laws.MakeOwn
import Derived.Maps.AppendAt
import Derived.Lib.AppendStr
import Derived.Test.YtndlihclgdkpaaaGreatDoorGc
import Derived.Test.YtndlihclgdkpaaaGreatDoorGd
import Derived.Test.YtndlihclgdkpaaaGreatDoorGg
import Derived.Test.YtndlihclgdkpaaaGreatDoorGh
import Derived.Test.YtndlihclgdkpaaaGreatDoorGi
import Derived.Test.YtndlihclgdkpaaaGreatDoorGj
import Derived.Test.YtndlihclgdkpaaaGreatDoorGk
/- The document's Encode of a list of values. -/
set_option linter.unusedVariables false
set_option linter.unusedSimpArgs false
open Go.Lib (hid)
set_option maxHeartbeats 4000000
set_option maxRecDepth 100000
namespace Go.Proofs.YtndlihclgdkpaaaGreatDoor
open Go.RowKit
open Kit (Chg)
open Sha (v)
open Go.Proofs.YtndlihclgdkpaaaGreatDoor.One

section
variable {a:Act} {Q:Exit→Act→World→Prop} {K:Act→World→Prop} {o:Oper}
theorem wp_app_bytes {w0:World} (s x:Operand) (ho:o.op= .call { callee:= .builtin .append,args:= #[s,x],argTypes:= #[52, 52] })
    (base:Nat) (v:Value) (L:Nat) (cur:List Nat) (hs:a.eval s=v) (hown:w0.ownsRow base 5 1 v L (bvals cur)) (hb:base≤w0.heap.size) (hL:L≤1000000000)
    (ao:Option Addr) (m c:Nat) (xs:List Nat) (hm:xs.length=m) (hm0:0<m) (hm2:m≤1000000000) (hx:a.eval x= .slice ao m c) (hB:BytesAt w0 ao xs)
    (h: ∀v' w',w'.ownsRow base 5 1 v' (L+m) (bvals (cur++xs))→Below base w0 w'→w0.grownBy w' v.ownBlock→K (a.put o.dst v') w'):o.wp Tryz.prog a w0 K Q:=by
 obtain ⟨i0,hi,hz0,hz1,hz2⟩:=info_parts Tryz.info5
 subst hm
 rcases hB.1 with e | ⟨b,of,e,hc⟩
 ·rw [e] at hm0;simp at hm0
 ·subst e
  have hn: ∀j u,(bvals xs)[j]? =some u→w0.cell? ((⟨b,of,none⟩:Addr).add j)=some u:=fun j u hj=>by
   have hlt:j<xs.length:=by
    have:=(List.getElem?_eq_some_iff.1 hj).1
    simpa [bvals] using this
   rw [add_none,hc j hlt,← hj]
   unfold bvals
   rw [List.getElem?_map,lE hlt,lD,lE hlt]
   rfl
  obtain ⟨v',w',hr,h2,h3,_,_⟩:=run_append_own_at (P:= Tryz.prog) w0 base 52 o.type 5 i0 (.int .u8 0) 1 1 Tryz.underlying52 hi hz0 hz1 hz2 rfl (by decide) v L (bvals cur) hown ⟨b,of,none⟩ xs.length c (bvals xs) (by simp [bvals]) hn (bvals_one _) (by unfold maxLen;omega) (by omega) hb
  unfold Oper.wp execOp
  simp only [ho,resolve,invoke,builtin,Sem.run_bind,Sem.run_pure,Result.andThen_ok,List.map_toArray,List.map_cons,List.map_nil,hs,hx,hr]
  exact h v' w' (by rw [bvals_append];exact h2) ((Chg.of_grown h3 (fun q _ e=>(hown.lt q e).1):Chg (fun q _=>base≤q) w0 w').below hb (fun q i hq h=>by omega)) h3
theorem wp_app_txt {w0:World} (s x:Operand) (ho:o.op= .call { callee:= .builtin .append,args:= #[s,x],argTypes:= #[52,9] })
    (base:Nat) (v:Value) (L:Nat) (cur:List Nat) (hs:a.eval s=v) (hown:w0.ownsRow base 5 1 v L (bvals cur)) (hb:base≤w0.heap.size) (hL:L≤1000000000)
    (str:ByteArray) (m:Nat) (hm:str.size=m) (hm2:m≤1000000000) (hx:a.eval x= .string str)
    (h: ∀v' w',w'.ownsRow base 5 1 v' (L+m) (bvals (cur++nb str))→Below base w0 w'→w0.grownBy w' v.ownBlock→K (a.put o.dst v') w'):o.wp Tryz.prog a w0 K Q:=by
 obtain ⟨i0,hi,hz0,hz1,hz2⟩:=info_parts Tryz.info5
 subst hm
 obtain ⟨v',w',hr,h2,h3,_⟩:=Go.Lib.run_append_own_string (P:= Tryz.prog) (w:=w0) base 52 9 o.type 5 i0 Tryz.underlying52 Tryz.underlying9 hi hz0 hz1 hz2 v L (bvals cur) hown str (by unfold maxLen;omega) (by omega) hb
 rw [strCells_bvals] at h2
 unfold Oper.wp execOp
 simp only [ho,resolve,invoke,builtin,Sem.run_bind,Sem.run_pure,Result.andThen_ok,List.map_toArray,List.map_cons,List.map_nil,hs,hx,hr]
 exact h v' w' (by rw [bvals_append];exact h2) ((Chg.of_grown h3 (fun q _ e=>(hown.lt q e).1):Chg (fun q _=>base≤q) w0 w').below hb (fun q i hq h=>by omega)) h3
end
theorem own_ne {w:World} {base n b:Nat} {v:Value} {xs:List Value} {row:Array Value} {T:TypeId} (h:w.ownsRow base 5 1 v n xs) (hg:w.heap[b]? =some (.cells row T (0,0))) (hT:T≠5): ∀q,v.ownBlock=some q→q≠b:=by
 intro q hq e
 subst e
 rcases h.2 with ⟨rfl,_⟩ | ⟨g,cap,cur,rfl,_,hr,_⟩
 ·cases hq
 ·cases hq
  rw [hr] at hg
  cases hg
  exact hT rfl
inductive RV where
 | uint (n:Nat)
 | bytes (s:ByteArray)
 | text (s:ByteArray)
 | sum (s:ByteArray)
 | count (n:Nat)
def RV.cells:RV→List Value
 | .uint n=>[.int .i64 1,.int .u64 (n:Int),.int .i64 0,.bool false,.string { data:= #[] },.int .i64 0]
 | .bytes s=>[.int .i64 4,.int .u64 0,.int .i64 0,.bool false,.string s,.int .i64 0]
 | .text s=>[.int .i64 5,.int .u64 0,.int .i64 0,.bool false,.string s,.int .i64 0]
 | .sum s=>[.int .i64 6,.int .u64 0,.int .i64 0,.bool false,.string s,.int .i64 0]
 | .count n=>[.int .i64 7,.int .u64 0,.int .i64 (n:Int),.bool false,.string { data:= #[] },.int .i64 0]
def RV.enc:RV→List Nat
 | .uint n=>num n
 | .bytes s=>num s.size++nb s
 | .text s=>num s.size++nb s
 | .sum s=>nb s
 | .count n=>num n
def RV.ok:RV→Prop
 | .uint n=>n<18446744073709551616
 | .bytes s=>s.size≤1000000
 | .text s=>s.size≤1000000
 | .sum s=>s.size=32
 | .count n=>n<9223372036854775808
theorem RV.len6 (x:RV):x.cells.length=6:=by cases x<;> rfl
theorem RV.enc_lt (x:RV): ∀y ∈ x.enc,y<256:=by
 cases x with
 | uint n=>exact num_lt n
 | bytes s=>exact app_lt (num_lt _) (nb_lt s)
 | text s=>exact app_lt (num_lt _) (nb_lt s)
 | sum s=>exact nb_lt s
 | count n=>exact num_lt n
def VsAt (w:World) (a:Option Addr) (l:List RV):Prop:=l=[]∨ ∃b o,a=some ⟨b,o,none⟩∧ ∀i,(h:i<l.length)→ ∀j u,(l[i]).cells[j]? =some u→w.cell? ⟨b,o+i*6+j,none⟩=some u
theorem VsAt.later {w w':World} {a:Option Addr} {l:List RV} (h:VsAt w a l) (hb:Below w.heap.size w w'):VsAt w' a l:=by
 rcases h with h | ⟨b,o,e,hc⟩
 ·exact .inl h
 ·exact .inr ⟨b,o,e,fun i hi j u hj=>(hb.cell (World.block_lt_of_cell? w _ (hc i hi j u hj))).trans (hc i hi j u hj)⟩
def refEncT (l:List RV) (k:Nat):List Nat:=(l.take k).flatMap RV.enc
theorem refEncT_succ (l:List RV) (k:Nat) (h:k<l.length):refEncT l (k+1)=refEncT l k++(l[k]).enc:=by
 unfold refEncT
 rw [List.take_add_one,lE h,List.flatMap_append]
 show _++((l[k]).enc++[])=_
 rw [List.append_nil]
theorem refEncT_all (l:List RV) (k:Nat) (h:l.length≤k):refEncT l k=l.flatMap RV.enc:=by unfold refEncT;rw [List.take_of_length_le h]
theorem refEncT_le (l:List RV) (k:Nat):(refEncT l k).length≤(l.flatMap RV.enc).length:=by
 have h:refEncT l k++(l.drop k).flatMap RV.enc=l.flatMap RV.enc:=by unfold refEncT;rw [← List.flatMap_append,List.take_append_drop]
 rw [← h,List.length_append]
 omega
theorem refEncT_lt (l:List RV) (k:Nat): ∀x ∈ refEncT l k,x<256:=by
 intro x hx
 unfold refEncT at hx
 obtain ⟨y,_,hy⟩:=List.mem_flatMap.1 hx
 exact y.enc_lt x hy
theorem VsAt.six {w:World} {b o k:Nat} {l:List RV} (h: ∀i,(h:i<l.length)→ ∀j u,(l[i]).cells[j]? =some u→w.cell? ⟨b,o+i*6+j,none⟩=some u) (hk:k<l.length) {x0 x1 x2 x3 x4 x5:Value} (hx:(l[k]).cells=[x0,x1,x2,x3,x4,x5]):w.cell? ⟨b,o+k*6,none⟩=some x0∧w.cell? ⟨b,o+k*6+1,none⟩=some x1∧w.cell? ⟨b,o+k*6+2,none⟩=some x2∧w.cell? ⟨b,o+k*6+3,none⟩=some x3∧w.cell? ⟨b,o+k*6+4,none⟩=some x4∧w.cell? ⟨b,o+k*6+5,none⟩=some x5:=by
 have h1:=h k hk
 rw [hx] at h1
 exact ⟨h1 0 _ rfl,h1 1 _ rfl,h1 2 _ rfl,h1 3 _ rfl,h1 4 _ rfl,h1 5 _ rfl⟩
theorem refEncode_any (av:Option Addr) (cv n:Nat) (l:List RV) (hn:l.length=n) (h12:n≤1000) (hok: ∀x ∈ l,x.ok) (T:List Nat) (hT:l.flatMap RV.enc=T) (hTL:T.length≤1048576) (w:World) (hV:VsAt w av l):
    Calls Tryz.prog 127 #[.slice av n cv] w fun e w'=> ∃ad L cap,e= .returned (.tuple #[.slice ad L cap,.int .i64 0])∧T.length=L∧L≤cap∧BytesAt w' ad T∧(ad=none→cap=0)∧Below w.heap.size w w':=by
 have HV:=hid hV
 have HNL:=hid hn
 have HOK:=hid hok
 have HTE:=hid hT
 have HTL:=hid hTL
 clear hV hn hok hT hTL
 go_enter Tryz.func127,Tryz.ntmps127
 go_upto_region 2 with fail
 obtain ⟨N,hN⟩:=ex_eq w.heap.size
 have HN:=hid hN
 refine wp_over (fun W=>Hid (W.ownsRow N 5 1 (.slice (some ⟨w.heap.size,0,none⟩) 0 0) 0 (bvals []))∧Hid (Below N w W)) ⟨own_empty (by omega),(Below.refl _ _).alloc (by omega) _⟩ ?_
 rintro W ⟨HOW0,HB0⟩
 rw [hN] at HOW0 ⊢
 clear hN
 go_upto_region 3 with fail
 go_loopw [5,4] (fun z v wr=> ∃k L:Nat,k≤n∧z= .int .i64 (k:Int)∧Hid (wr.ownsRow N 5 1 v L (bvals (refEncT l k)))∧Hid ((refEncT l k).length=L)∧Hid (Below N w wr)) (fun z _ _=>n - (intOf z).toNat)
 case atStart=>exact ⟨0,0,by omega,rfl,HOW0.o,hid rfl,HB0.o⟩
 case round=>
  obtain ⟨k,L,hk,rfl,HO,HLL,HBE⟩:=hrel
  have HSZ:Hid (N≤wr.heap.size):=hid (by have:=HBE.o.size;have:=HN.o;omega)
  by_cases hlt:k<n
  ·have hki:(k:Int)<(n:Int):=by omega
   have HKL:Hid (k<l.length):=hid (by rw [HNL.o];exact hlt)
   obtain ⟨b0,o0,rfl,hcs⟩: ∃b o,av=some ⟨b,o,none⟩∧ ∀i,(h:i<l.length)→ ∀j u,(l[i]).cells[j]? =some u→wr.cell? ⟨b,o+i*6+j,none⟩=some u:=by
    rcases HV.o.later (by rw [HN.o];exact HBE.o) with h | h
    ·have:=HNL.o;rw [h] at this;simp at this;omega
    ·exact h
   have HSX:=hid (fun x0 x1 x2 x3 x4 x5 hx=>VsAt.six (x0:=x0) (x1:=x1) (x2:=x2) (x3:=x3) (x4:=x4) (x5:=x5) hcs HKL.o hx)
   have HSU:=hid (refEncT_succ l k HKL.o)
   have HLT:=hid (refEncT_lt l k)
   have HL1:Hid ((refEncT l (k+1)).length≤1048576):=hid (Nat.le_trans (refEncT_le l (k+1)) (by rw [HTE.o];exact HTL.o))
   have HOX:=hid (HOK.o _ (List.getElem_mem HKL.o))
   clear hcs
   obtain ⟨x,hx⟩:=ex_eq (l[k]'HKL.o)
   have HXX:Hid (l[k]'HKL.o=x):=hid hx
   rw [hx] at HSU HOX
   clear hx
   have HLB:Hid (L≤1048576):=hid (by have h1:=HL1.o;rw [HSU.o,List.length_append,HLL.o] at h1;omega)
   rcases x with d | s | s | s | d
   ·have HDD:Hid (d<18446744073709551616):=hid HOX.o
    obtain ⟨c0,c1,c2,c3,c4,c5⟩:=HSX.o (.int .i64 1) (.int .u64 (d:Int)) (.int .i64 0) (.bool false) (.string { data:= #[] }) (.int .i64 0) (by rw [HXX.o];rfl)
    go_upto_region 6 with fail
    refine wp_over (fun V=>Hid (V.heap[wr.heap.size]? =some (.cells #[.int .i64 1,.int .u64 (d:Int),.int .i64 0,.bool false,.string { data:= #[] },.int .i64 0] 187 (0,0)))∧Hid (V.heap.size=wr.heap.size+1)∧Hid (Below wr.heap.size wr V)∧Hid (V.ownsRow N 5 1 u4 L (bvals (refEncT l k)))) ⟨heap_alloc_new _ _,by show _=_;simp,(Below.refl _ _).alloc (Nat.le_refl _) _,HO.o.alloc _⟩ ?_
    rintro W2 ⟨HG2,HZ2,HB2,HO2⟩
    clear c0 c1 c2 c3 c4 c5
    obtain ⟨c0,c1,c2,c3,c4,c5⟩:=row6 HG2.o
    obtain ⟨N2,hN2⟩:=ex_eq wr.heap.size
    rw [hN2] at HG2 HZ2 HB2 c0 c1 c2 c3 c4 c5 ⊢
    have HN2:=hid hN2
    clear hN2
    go_wp2_with (first
     | (go_at_call 213
        (with_reducible refine (refNumber_any d HDD.o _).mono ?_)
        rintro e w3 ⟨v3,m3,rfl,hm3,ho3,h3⟩
        have hm10:=num_len10 HDD.o
        obtain ⟨a3,p3,rfl,hl3,_,hb3,hn3,_⟩:=own_bytes ho3 (num_lt d) (by unfold maxLen;omega)
        have HM10:Hid (m3≤10):=hid (by rw [hm3];exact hm10)
        have HM3:Hid ((num d).length=m3):=hid hm3.symm
        have HB3:=hid hb3
        have HA3:=hid hn3
        clear hm3 ho3 hm10 hl3 hb3 hn3
        have H3:Hid (Below wr.heap.size wr w3):=hid (by rw [HN2.o];exact HB2.o.trans (h3.mono (by have:=HZ2.o;omega)))
        have HO3:Hid (w3.ownsRow N 5 1 u4 L (bvals (refEncT l k))):=hid (ownsRow_keepM HO.o (Chg.of_below H3.o:Chg (fun _ _=>False) wr w3) (fun q hq i e=>e))
        have HS3:Hid (N≤w3.heap.size):=hid (by have:=H3.o.size;have:=HSZ.o;omega)
        clear h3
        clear c0 c1 c2 c3 c4 c5)
     | (at_builtin
        refine app_bytes (w0:=w3) rfl _ _ rfl N u4 L (refEncT l k) (by rfl) HO3.o HS3.o (by have:=HLB.o;omega) a3 m3 p3 (num d) HM3.o (by have:=HM10.o;omega) (by rfl) HB3.o HA3.o ?_
        intro v5 w5 ho5 h5
        have HO5:Hid (w5.ownsRow N 5 1 v5 (L+m3) (bvals (refEncT l (k+1)))):=hid (by rw [HSU.o];exact ho5)
        have H5:Hid (Below N w w5):=hid ((HBE.o.trans (H3.o.mono HSZ.o)).trans h5)
        clear ho5 h5))
    go_roundw
    case rel=>exact ⟨k+1,L+m3,hlt,by go_num,HO5.o,hid (by rw [HSU.o,List.length_append,HLL.o];exact congrArg (L+ ·) HM3.o),H5.o⟩
    case measure=>simp [intOf];omega
   ·have HSS:Hid (s.size≤1000000):=hid HOX.o
    have HDD:Hid (s.size<18446744073709551616):=hid (by have:=HSS.o;omega)
    have hwu:IntKind.u64.wrap (s.size:Int)=(s.size:Int):=by have:=HDD.o;rw [IntKind.wrap_u64];omega
    obtain ⟨c0,c1,c2,c3,c4,c5⟩:=HSX.o (.int .i64 4) (.int .u64 0) (.int .i64 0) (.bool false) (.string s) (.int .i64 0) (by rw [HXX.o];rfl)
    go_upto_region 6 with fail
    refine wp_over (fun V=>Hid (V.heap[wr.heap.size]? =some (.cells #[.int .i64 4,.int .u64 0,.int .i64 0,.bool false,.string s,.int .i64 0] 187 (0,0)))∧Hid (V.heap.size=wr.heap.size+1)∧Hid (Below wr.heap.size wr V)∧Hid (V.ownsRow N 5 1 u4 L (bvals (refEncT l k)))) ⟨heap_alloc_new _ _,by show _=_;simp,(Below.refl _ _).alloc (Nat.le_refl _) _,HO.o.alloc _⟩ ?_
    rintro W2 ⟨HG2,HZ2,HB2,HO2⟩
    clear c0 c1 c2 c3 c4 c5
    obtain ⟨c0,c1,c2,c3,c4,c5⟩:=row6 HG2.o
    obtain ⟨N2,hN2⟩:=ex_eq wr.heap.size
    rw [hN2] at HG2 HZ2 HB2 c0 c1 c2 c3 c4 c5 ⊢
    have HN2:=hid hN2
    clear hN2
    have HBW:Hid (Below wr.heap.size wr W2):=hid (by rw [HN2.o];exact HB2.o)
    go_upto_region 17 with fail
    refine Kit.wp_region_gplan (fun V=>V.cell? ⟨N2,4,none⟩=some (.string s)) [(true,0),(true,1),(true,2),(true,3),(true,4),(true,7),(true,8),(false,5),(false,6),(false,9),(true,10)] (by kernel_rfl) (by kernel_rfl) (by kernel_rfl) (by kernel_rfl) c4 ?_
    iterate 7 (refine Kit.ghd (h:= ?_))
    clear c0 c1 c2 c3 c4 c5
    refine Kit.gplan_op (by rfl) (by rfl) fun K hK=> ?_
    go_simp
    go_at_call 213
    (with_reducible refine (refNumber_any s.size HDD.o _).mono ?_)
    rintro e w3 ⟨v3,m3,rfl,hm3,ho3,h3⟩
    have hm10:=num_len10 HDD.o
    obtain ⟨a3,p3,rfl,hl3,_,hb3,hn3,_⟩:=own_bytes ho3 (num_lt s.size) (by unfold maxLen;omega)
    have HM10:Hid (m3≤10):=hid (by rw [hm3];exact hm10)
    have HM3:Hid ((num s.size).length=m3):=hid hm3.symm
    have HB3:=hid hb3
    have HA3:=hid hn3
    clear hm3 ho3 hm10 hl3 hb3 hn3
    have h4:Below W2.heap.size W2 w3:=(Below.refl _ W2).drew.trans h3
    have HR4:=hid ((h4.block N2 (by have:=HZ2.o;omega)).trans HG2.o)
    have HC4:Hid (w3.cell? ⟨N2,4,none⟩=some (.string s)):=hid (row6 HR4.o).2.2.2.2.1
    have H3:Hid (Below wr.heap.size wr w3):=hid (by rw [HN2.o];exact HB2.o.trans (h4.mono (by have:=HZ2.o;omega)))
    have HO3:Hid (w3.ownsRow N 5 1 u4 L (bvals (refEncT l k))):=hid (ownsRow_keepM HO.o (Chg.of_below H3.o:Chg (fun _ _=>False) wr w3) (fun q hq i e=>e))
    have HS3:Hid (N≤w3.heap.size):=hid (by have:=H3.o.size;have:=HSZ.o;omega)
    clear h3
    clear h4
    refine hK _ _ HC4.o ?_
    clear hK K
    refine Kit.gplan_op (by rfl) (by rfl) fun K hK=> ?_
    refine wp_app_bytes (w0:=w3) (.tmp 48) (.tmp 53) (by rfl) N u4 L (refEncT l k) (by rfl) HO3.o HS3.o (by have:=HLB.o;omega) a3 m3 p3 (num s.size) HM3.o (by have h:=num_pos s.size;rw [HM3.o] at h;exact h) (by have:=HM10.o;omega) (by rfl) HB3.o ?_
    intro v5 w5 ho5 h5 g5
    have HO5:=hid ho5
    have H5:Hid (Below N wr w5):=hid ((H3.o.mono HSZ.o).trans h5)
    have HS5:Hid (N≤w5.heap.size):=hid (by have:=H5.o.size;have:=HSZ.o;omega)
    have HR5:=hid ((g5.block N2 (gS HR4.o).1 (fun e=>own_ne HO3.o HR4.o (by decide) N2 e.symm rfl)).trans HR4.o)
    have HCC:Hid (w5.cell? ⟨N2,4,none⟩=some (.string s)):=hid (row6 HR5.o).2.2.2.2.1
    clear ho5 h5 g5
    refine hK _ _ HCC.o ?_
    clear hK K
    refine Kit.gplan_op (by rfl) (by rfl) fun K hK=> ?_
    refine wp_app_txt (w0:=w5) (.tmp 54) (.tmp 56) (by rfl) N v5 (L+m3) (refEncT l k++num s.size) (by rfl) HO5.o HS5.o (by have:=HLB.o;have:=HM10.o;omega) s s.size rfl (by have:=HSS.o;omega) (by rfl) ?_
    intro v6 w6 ho6 h6 g6
    have HO6:Hid (w6.ownsRow N 5 1 v6 (L+m3+s.size) (bvals (refEncT l (k+1)))):=hid (by rw [HSU.o];show w6.ownsRow N 5 1 v6 _ (bvals (refEncT l k++(num s.size++nb s)));rw [← List.append_assoc];exact ho6)
    have H6:Hid (Below N w w6):=hid ((HBE.o.trans H5.o).trans h6)
    have hc6:=(row6 ((g6.block N2 (gS HR5.o).1 (fun e=>own_ne HO5.o HR5.o (by decide) N2 e.symm rfl)).trans HR5.o)).2.2.2.2.1
    clear ho6 h6 g6
    refine hK _ _ hc6 ?_
    clear hc6
    clear hK K
    iterate 1 (refine Kit.ghd (h:= ?_))
    refine Kit.gdn (h:=?_)
    go_wp2_with fail
    go_roundw
    case rel=>exact ⟨k+1,L+m3+s.size,hlt,by go_num,HO6.o,hid (by rw [HSU.o,List.length_append,HLL.o];show L+(num s.size++nb s).length=_;rw [List.length_append,HM3.o,nb_length];omega),H6.o⟩
    case measure=>simp [intOf];omega
   ·have HSS:Hid (s.size≤1000000):=hid HOX.o
    have HDD:Hid (s.size<18446744073709551616):=hid (by have:=HSS.o;omega)
    have hwu:IntKind.u64.wrap (s.size:Int)=(s.size:Int):=by have:=HDD.o;rw [IntKind.wrap_u64];omega
    obtain ⟨c0,c1,c2,c3,c4,c5⟩:=HSX.o (.int .i64 5) (.int .u64 0) (.int .i64 0) (.bool false) (.string s) (.int .i64 0) (by rw [HXX.o];rfl)
    go_upto_region 6 with fail
    refine wp_over (fun V=>Hid (V.heap[wr.heap.size]? =some (.cells #[.int .i64 5,.int .u64 0,.int .i64 0,.bool false,.string s,.int .i64 0] 187 (0,0)))∧Hid (V.heap.size=wr.heap.size+1)∧Hid (Below wr.heap.size wr V)∧Hid (V.ownsRow N 5 1 u4 L (bvals (refEncT l k)))) ⟨heap_alloc_new _ _,by show _=_;simp,(Below.refl _ _).alloc (Nat.le_refl _) _,HO.o.alloc _⟩ ?_
    rintro W2 ⟨HG2,HZ2,HB2,HO2⟩
    clear c0 c1 c2 c3 c4 c5
    obtain ⟨c0,c1,c2,c3,c4,c5⟩:=row6 HG2.o
    obtain ⟨N2,hN2⟩:=ex_eq wr.heap.size
    rw [hN2] at HG2 HZ2 HB2 c0 c1 c2 c3 c4 c5 ⊢
    have HN2:=hid hN2
    clear hN2
    have HBW:Hid (Below wr.heap.size wr W2):=hid (by rw [HN2.o];exact HB2.o)
    go_upto_region 17 with fail
    refine Kit.wp_region_gplan (fun V=>V.cell? ⟨N2,4,none⟩=some (.string s)) [(true,0),(true,1),(true,2),(true,3),(true,4),(true,7),(true,8),(false,5),(false,6),(false,9),(true,10)] (by kernel_rfl) (by kernel_rfl) (by kernel_rfl) (by kernel_rfl) c4 ?_
    iterate 7 (refine Kit.ghd (h:= ?_))
    clear c0 c1 c2 c3 c4 c5
    refine Kit.gplan_op (by rfl) (by rfl) fun K hK=> ?_
    go_simp
    go_at_call 213
    (with_reducible refine (refNumber_any s.size HDD.o _).mono ?_)
    rintro e w3 ⟨v3,m3,rfl,hm3,ho3,h3⟩
    have hm10:=num_len10 HDD.o
    obtain ⟨a3,p3,rfl,hl3,_,hb3,hn3,_⟩:=own_bytes ho3 (num_lt s.size) (by unfold maxLen;omega)
    have HM10:Hid (m3≤10):=hid (by rw [hm3];exact hm10)
    have HM3:Hid ((num s.size).length=m3):=hid hm3.symm
    have HB3:=hid hb3
    have HA3:=hid hn3
    clear hm3 ho3 hm10 hl3 hb3 hn3
    have h4:Below W2.heap.size W2 w3:=(Below.refl _ W2).drew.trans h3
    have HR4:=hid ((h4.block N2 (by have:=HZ2.o;omega)).trans HG2.o)
    have HC4:Hid (w3.cell? ⟨N2,4,none⟩=some (.string s)):=hid (row6 HR4.o).2.2.2.2.1
    have H3:Hid (Below wr.heap.size wr w3):=hid (by rw [HN2.o];exact HB2.o.trans (h4.mono (by have:=HZ2.o;omega)))
    have HO3:Hid (w3.ownsRow N 5 1 u4 L (bvals (refEncT l k))):=hid (ownsRow_keepM HO.o (Chg.of_below H3.o:Chg (fun _ _=>False) wr w3) (fun q hq i e=>e))
    have HS3:Hid (N≤w3.heap.size):=hid (by have:=H3.o.size;have:=HSZ.o;omega)
    clear h3
    clear h4
    refine hK _ _ HC4.o ?_
    clear hK K
    refine Kit.gplan_op (by rfl) (by rfl) fun K hK=> ?_
    refine wp_app_bytes (w0:=w3) (.tmp 48) (.tmp 53) (by rfl) N u4 L (refEncT l k) (by rfl) HO3.o HS3.o (by have:=HLB.o;omega) a3 m3 p3 (num s.size) HM3.o (by have h:=num_pos s.size;rw [HM3.o] at h;exact h) (by have:=HM10.o;omega) (by rfl) HB3.o ?_
    intro v5 w5 ho5 h5 g5
    have HO5:=hid ho5
    have H5:Hid (Below N wr w5):=hid ((H3.o.mono HSZ.o).trans h5)
    have HS5:Hid (N≤w5.heap.size):=hid (by have:=H5.o.size;have:=HSZ.o;omega)
    have HR5:=hid ((g5.block N2 (gS HR4.o).1 (fun e=>own_ne HO3.o HR4.o (by decide) N2 e.symm rfl)).trans HR4.o)
    have HCC:Hid (w5.cell? ⟨N2,4,none⟩=some (.string s)):=hid (row6 HR5.o).2.2.2.2.1
    clear ho5 h5 g5
    refine hK _ _ HCC.o ?_
    clear hK K
    refine Kit.gplan_op (by rfl) (by rfl) fun K hK=> ?_
    refine wp_app_txt (w0:=w5) (.tmp 54) (.tmp 56) (by rfl) N v5 (L+m3) (refEncT l k++num s.size) (by rfl) HO5.o HS5.o (by have:=HLB.o;have:=HM10.o;omega) s s.size rfl (by have:=HSS.o;omega) (by rfl) ?_
    intro v6 w6 ho6 h6 g6
    have HO6:Hid (w6.ownsRow N 5 1 v6 (L+m3+s.size) (bvals (refEncT l (k+1)))):=hid (by rw [HSU.o];show w6.ownsRow N 5 1 v6 _ (bvals (refEncT l k++(num s.size++nb s)));rw [← List.append_assoc];exact ho6)
    have H6:Hid (Below N w w6):=hid ((HBE.o.trans H5.o).trans h6)
    have hc6:=(row6 ((g6.block N2 (gS HR5.o).1 (fun e=>own_ne HO5.o HR5.o (by decide) N2 e.symm rfl)).trans HR5.o)).2.2.2.2.1
    clear ho6 h6 g6
    refine hK _ _ hc6 ?_
    clear hc6
    clear hK K
    iterate 1 (refine Kit.ghd (h:= ?_))
    refine Kit.gdn (h:=?_)
    go_wp2_with fail
    go_roundw
    case rel=>exact ⟨k+1,L+m3+s.size,hlt,by go_num,HO6.o,hid (by rw [HSU.o,List.length_append,HLL.o];show L+(num s.size++nb s).length=_;rw [List.length_append,HM3.o,nb_length];omega),H6.o⟩
    case measure=>simp [intOf];omega
   ·have HSS:Hid (s.size=32):=hid HOX.o
    obtain ⟨c0,c1,c2,c3,c4,c5⟩:=HSX.o (.int .i64 6) (.int .u64 0) (.int .i64 0) (.bool false) (.string s) (.int .i64 0) (by rw [HXX.o];rfl)
    go_upto_region 6 with fail
    refine wp_over (fun V=>Hid (V.heap[wr.heap.size]? =some (.cells #[.int .i64 6,.int .u64 0,.int .i64 0,.bool false,.string s,.int .i64 0] 187 (0,0)))∧Hid (V.heap.size=wr.heap.size+1)∧Hid (Below wr.heap.size wr V)∧Hid (V.ownsRow N 5 1 u4 L (bvals (refEncT l k)))) ⟨heap_alloc_new _ _,by show _=_;simp,(Below.refl _ _).alloc (Nat.le_refl _) _,HO.o.alloc _⟩ ?_
    rintro W2 ⟨HG2,HZ2,HB2,HO2⟩
    clear c0 c1 c2 c3 c4 c5
    obtain ⟨c0,c1,c2,c3,c4,c5⟩:=row6 HG2.o
    obtain ⟨N2,hN2⟩:=ex_eq wr.heap.size
    rw [hN2] at HG2 HZ2 HB2 c0 c1 c2 c3 c4 c5 ⊢
    have HN2:=hid hN2
    clear hN2
    have hss:(s.size:Int)=32:=by have:=HSS.o;omega
    have HBW:Hid (Below wr.heap.size wr W2):=hid (by rw [HN2.o];exact HB2.o)
    have HSW:Hid (N≤W2.heap.size):=hid (by have:=HBW.o.size;have:=HSZ.o;omega)
    go_wp2_with (first
     | (at_builtin
        refine app_txt (w0:=W2) rfl _ _ rfl N u4 L (refEncT l k) (by rfl) HO2.o HSW.o (by have:=HLB.o;omega) s 32 HSS.o (by decide) (by rfl) ?_
        intro v5 w5 ho5 h5
        have HO5:Hid (w5.ownsRow N 5 1 v5 (L+32) (bvals (refEncT l (k+1)))):=hid (by rw [HSU.o];exact ho5)
        have H5:Hid (Below N w w5):=hid ((HBE.o.trans (HBW.o.mono HSZ.o)).trans h5)
        clear ho5 h5))
    go_roundw
    case rel=>exact ⟨k+1,L+32,hlt,by go_num,HO5.o,hid (by rw [HSU.o,List.length_append,HLL.o];exact congrArg (L+ ·) ((nb_length s).trans HSS.o)),H5.o⟩
    case measure=>simp [intOf];omega
   ·have HDD:Hid (d<18446744073709551616):=hid (by have h:=HOX.o;unfold RV.ok at h;omega)
    have hneg: ¬(d:Int)<0:=by omega
    have hwu:IntKind.u64.wrap (d:Int)=(d:Int):=by have:=HDD.o;rw [IntKind.wrap_u64];omega
    obtain ⟨c0,c1,c2,c3,c4,c5⟩:=HSX.o (.int .i64 7) (.int .u64 0) (.int .i64 (d:Int)) (.bool false) (.string { data:= #[] }) (.int .i64 0) (by rw [HXX.o];rfl)
    go_upto_region 6 with fail
    refine wp_over (fun V=>Hid (V.heap[wr.heap.size]? =some (.cells #[.int .i64 7,.int .u64 0,.int .i64 (d:Int),.bool false,.string { data:= #[] },.int .i64 0] 187 (0,0)))∧Hid (V.heap.size=wr.heap.size+1)∧Hid (Below wr.heap.size wr V)∧Hid (V.ownsRow N 5 1 u4 L (bvals (refEncT l k)))) ⟨heap_alloc_new _ _,by show _=_;simp,(Below.refl _ _).alloc (Nat.le_refl _) _,HO.o.alloc _⟩ ?_
    rintro W2 ⟨HG2,HZ2,HB2,HO2⟩
    clear c0 c1 c2 c3 c4 c5
    obtain ⟨c0,c1,c2,c3,c4,c5⟩:=row6 HG2.o
    obtain ⟨N2,hN2⟩:=ex_eq wr.heap.size
    rw [hN2] at HG2 HZ2 HB2 c0 c1 c2 c3 c4 c5 ⊢
    have HN2:=hid hN2
    clear hN2
    go_wp2_with (first
     | (go_at_call 213
        (with_reducible refine (refNumber_any d HDD.o _).mono ?_)
        rintro e w3 ⟨v3,m3,rfl,hm3,ho3,h3⟩
        have hm10:=num_len10 HDD.o
        obtain ⟨a3,p3,rfl,hl3,_,hb3,hn3,_⟩:=own_bytes ho3 (num_lt d) (by unfold maxLen;omega)
        have HM10:Hid (m3≤10):=hid (by rw [hm3];exact hm10)
        have HM3:Hid ((num d).length=m3):=hid hm3.symm
        have HB3:=hid hb3
        have HA3:=hid hn3
        clear hm3 ho3 hm10 hl3 hb3 hn3
        have H3:Hid (Below wr.heap.size wr w3):=hid (by rw [HN2.o];exact HB2.o.trans (h3.mono (by have:=HZ2.o;omega)))
        have HO3:Hid (w3.ownsRow N 5 1 u4 L (bvals (refEncT l k))):=hid (ownsRow_keepM HO.o (Chg.of_below H3.o:Chg (fun _ _=>False) wr w3) (fun q hq i e=>e))
        have HS3:Hid (N≤w3.heap.size):=hid (by have:=H3.o.size;have:=HSZ.o;omega)
        clear h3
        clear c0 c1 c2 c3 c4 c5)
     | (at_builtin
        refine app_bytes (w0:=w3) rfl _ _ rfl N u4 L (refEncT l k) (by rfl) HO3.o HS3.o (by have:=HLB.o;omega) a3 m3 p3 (num d) HM3.o (by have:=HM10.o;omega) (by rfl) HB3.o HA3.o ?_
        intro v5 w5 ho5 h5
        have HO5:Hid (w5.ownsRow N 5 1 v5 (L+m3) (bvals (refEncT l (k+1)))):=hid (by rw [HSU.o];exact ho5)
        have H5:Hid (Below N w w5):=hid ((HBE.o.trans (H3.o.mono HSZ.o)).trans h5)
        clear ho5 h5))
    go_roundw
    case rel=>exact ⟨k+1,L+m3,hlt,by go_num,HO5.o,hid (by rw [HSU.o,List.length_append,HLL.o];exact congrArg (L+ ·) HM3.o),H5.o⟩
    case measure=>simp [intOf];omega
  ·have hki: ¬(k:Int)<(n:Int):=by omega
   have HE:Hid (refEncT l k=T):=hid (by rw [refEncT_all l k (by rw [HNL.o];omega),HTE.o])
   rw [HE.o] at HO HLL
   have HTS:Hid (∀x ∈ T,x<256):=hid (by rw [← HE.o];exact refEncT_lt l k)
   have hgt: ¬(1048576:Int)<(L:Int):=by have:=HTL.o;rw [HLL.o] at this;omega
   obtain ⟨ad,cap,rfl,h1,h2,h3,h4,_⟩:=own_bytes HO.o HTS.o (by have:=HTL.o;unfold maxLen;omega)
   have H3:=hid h3
   have H4:=hid h4
   have H2:Hid (L≤cap):=hid (by rw [← h1];exact h2)
   clear h1 h2 h3 h4
   go_wp2_with fail
   go_ret2
   exact ⟨ad,L,cap,rfl,HLL.o,H2.o,H3.o,H4.o,by rw [HN.o];exact HBE.o⟩
theorem vs_of_row {w:World} {b:Nat} {row:Array Value} {t:TypeId} {fr:Nat × Nat} {l:List RV} (hg:w.heap[b]? =some (.cells row t fr)) (h:(l.flatMap RV.cells).toArray=row):VsAt w (some ⟨b,0,none⟩) l:=by
 subst h
 refine .inr ⟨b,0,rfl,fun i hi j u hj=> ?_⟩
 rw [cell_of_row _ _ _ _ _ _ hg,Nat.zero_add]
 have hj6:j<6:=by have:=(List.getElem?_eq_some_iff.1 hj).1;rw [RV.len6] at this;exact this
 have H: ∀(l:List RV) (i:Nat) (hi:i<l.length),(l[i]).cells[j]? =some u→(l.flatMap RV.cells)[i*6+j]? =some u:=by
  intro l
  induction l with
  | nil=>intro i hi;simp at hi
  | cons x l ih=>
    intro i hi h
    rw [List.flatMap_cons]
    cases i with
    | zero=>rw [List.getElem?_append_left (by rw [RV.len6];omega),Nat.zero_mul,Nat.zero_add];exact h
    | succ i=>
      rw [List.getElem?_append_right (by rw [RV.len6];omega),RV.len6,show (i+1)*6+j - 6=i*6+j by omega]
      exact ih i (by simpa using hi) (by simpa using h)
 rw [List.getElem?_toArray]
 exact H l i hi hj
theorem refSplitM_any (n:Nat) (h2:2≤n) (h9:n≤256) (w:World):Calls Tryz.prog 191 #[.int .i64 (n:Int)] w fun e w'=>e= .returned (.int .i64 ((Mrk.spl n:Nat):Int))∧w=w':=by
 go_enter Tryz.func191,Tryz.ntmps191
 go_upto_region 2 with fail
 go_loopw [3] (fun x wr=> ∃(j J:Nat),Hid (2 ^ j=J∧J<n)∧x= .int .i64 (J:Int)∧wr=w) (fun x _=>n - (intOf x).toNat)
 case atStart=>exact ⟨0,1,hid ⟨rfl,by omega⟩,rfl,rfl⟩
 case round=>
  obtain ⟨j,J,HJ,rfl,rfl⟩:=hrel
  have hJ0:0<J:=by rw [← HJ.o.1];exact Nat.two_pow_pos j
  have hJn:J<n:=HJ.o.2
  have hd:IntKind.i64.wrap ((n:Int) - (J:Int))=(n:Int) - (J:Int):=by rw [IntKind.wrap_i64];omega
  by_cases hlt:J<n - J
  ·have hc:(J:Int)<(n:Int) - (J:Int):=by omega
   have hm:IntKind.i64.wrap ((J:Int)*2)=(J:Int)*2:=by rw [IntKind.wrap_i64];omega
   go_wp2_with fail
   go_roundw
   case rel=>exact ⟨j+1,J+J,hid ⟨by rw [Nat.pow_succ,HJ.o.1];omega,by omega⟩,by simp;omega,trivial⟩
   case measure=>simp [intOf];omega
  ·have hc: ¬(J:Int)<(n:Int) - (J:Int):=by omega
   have HE:Hid (Mrk.spl n=J):=hid (by rw [← HJ.o.1];exact Mrk.spl_unique (by rw [HJ.o.1];exact hJn) (by rw [Nat.pow_succ,HJ.o.1];omega))
   go_wp2_with fail
   go_ret
   exact ⟨by rw [HE.o];rfl,rfl⟩
theorem num43_any (d:Nat) (hd:d<9223372036854775808) (w:World):Calls Tryz.prog 124 #[.int .i64 (d:Int)] w fun e w'=>e= .returned (.agg #[.int .i64 1,.int .u64 (d:Int),.int .i64 0,.bool false,.string { data:= #[] },.int .i64 0])∧Below w.heap.size w w':=by
 have hwu:IntKind.u64.wrap (d:Int)=(d:Int):=by rw [IntKind.wrap_u64];omega
 clear hd
 go_enter Tryz.func124,Tryz.ntmps124
 go_wp2_with fail
 refine bodyPost_ret (results_cell_row (p:=2) rfl _ _ w.heap.size 187 #[.int .i64 1,.int .u64 (d:Int),.int .i64 0,.bool false,.string { data:= #[] },.int .i64 0] (0,0) _ (by rfl) (heap_alloc_new _ _) Tryz.underlying187 rfl (by kernel_rfl)) rfl ?_
 exact ⟨rfl,(Below.refl _ _).alloc (Nat.le_refl _) _⟩
theorem sum43_any (s:ByteArray) (w:World):Calls Tryz.prog 126 #[.string s] w fun e w'=>e= .returned (.agg #[.int .i64 6,.int .u64 0,.int .i64 0,.bool false,.string s,.int .i64 0])∧Below w.heap.size w w':=by
 go_enter Tryz.func126,Tryz.ntmps126
 go_wp2_with fail
 refine bodyPost_ret (results_cell_row (p:=2) rfl _ _ w.heap.size 187 #[.int .i64 6,.int .u64 0,.int .i64 0,.bool false,.string s,.int .i64 0] (0,0) _ (by rfl) (heap_alloc_new _ _) Tryz.underlying187 rfl (by kernel_rfl)) rfl ?_
 exact ⟨rfl,(Below.refl _ _).alloc (Nat.le_refl _) _⟩
theorem signed43_any (hol vlt:Int) (str:ByteArray) (ix sz day ser cnt pl:Int) (root:ByteArray) (ap:Option Addr) (n1 c1:Nat) (si:Int) (aq:Option Addr) (n2 c2:Nat) (ar:Option Addr) (n3 c3:Nat) (pa pt sq:List ByteArray) (hv:SgV ⟨hol,vlt,str,ix,sz,day,ser,cnt,pl,root,pa,si,pt,sq⟩) (w:World):Calls Tryz.prog 123 #[.agg #[.int .i64 hol,.int .i64 vlt,.string str,.int .i64 ix,.int .i64 sz,.int .i64 day,.int .i64 ser,.int .i64 cnt,.int .i64 pl,.string root,.slice ap n1 c1,.int .i64 si,.slice aq n2 c2,.slice ar n3 c3]] w fun e w'=> ∃(b:Nat) (l:List RV),e= .returned (.slice (some ⟨b,0,none⟩) 7 7)∧l.length=7∧(∀x ∈ l,x.ok)∧l.flatMap RV.enc=encS ⟨hol,vlt,str,ix,sz,day,ser,cnt,pl,root,pa,si,pt,sq⟩∧VsAt w' (some ⟨b,0,none⟩) l∧Below w.heap.size w w':=by
 obtain ⟨d0,rfl⟩: ∃n:Nat,hol=(n:Int):=⟨hol.toNat,by have:=hv.h0;simp only at this;omega⟩
 obtain ⟨d1,rfl⟩: ∃n:Nat,vlt=(n:Int):=⟨vlt.toNat,by have:=hv.gd.v0;simp only at this;omega⟩
 obtain ⟨d2,rfl⟩: ∃n:Nat,ix=(n:Int):=⟨ix.toNat,by have:=hv.gd.i0;simp only at this;omega⟩
 obtain ⟨d3,rfl⟩: ∃n:Nat,sz=(n:Int):=⟨sz.toNat,by have:=hv.gd.s0;simp only at this;omega⟩
 obtain ⟨d4,rfl⟩: ∃n:Nat,day=(n:Int):=⟨day.toNat,by have:=hv.d0;simp only at this;omega⟩
 obtain ⟨d5,rfl⟩: ∃n:Nat,ser=(n:Int):=⟨ser.toNat,by have:=hv.s0;simp only at this;omega⟩
 have HQ:Hid (d0≤1099511627776∧d1≤1099511627776∧d2≤1099511627776∧d3≤1099511627776∧d4≤1099511627776∧d5≤1099511627776∧str.size=32):=hid ⟨by have:=hv.h1;simp only at this;omega,by have:=hv.gd.v1;simp only at this;omega,by have:=hv.gd.i1;simp only at this;omega,by have:=hv.gd.s1;simp only at this;omega,by have:=hv.d1;simp only at this;omega,by have:=hv.s1;simp only at this;omega,hv.gd.st⟩
 have HOK:Hid (∀x ∈ [RV.uint d0,RV.uint d1,RV.sum str,RV.uint d2,RV.uint d3,RV.uint d4,RV.uint d5],x.ok):=hid (by
  have:=HQ.o
  intro x hx
  simp only [List.mem_cons,List.not_mem_nil,or_false] at hx
  rcases hx with rfl | rfl | rfl | rfl | rfl | rfl | rfl<;> unfold RV.ok<;> simp only<;> omega)
 have HTT:Hid ([RV.uint d0,RV.uint d1,RV.sum str,RV.uint d2,RV.uint d3,RV.uint d4,RV.uint d5].flatMap RV.enc=encS ⟨(d0:Int),(d1:Int),str,(d2:Int),(d3:Int),(d4:Int),(d5:Int),cnt,pl,root,pa,si,pt,sq⟩):=hid (by
  show num d0++(num d1++(nb str++(num d2++(num d3++(num d4++(num d5++[]))))))=_
  unfold encS encS.headN
  simp)
 obtain ⟨T,hT⟩:=ex_eq (encS ⟨(d0:Int),(d1:Int),str,(d2:Int),(d3:Int),(d4:Int),(d5:Int),cnt,pl,root,pa,si,pt,sq⟩)
 rw [hT] at HTT ⊢
 clear hT hv
 go_enter Tryz.func123,Tryz.ntmps123
 go_upto_region 1 with fail
 refine wp_over (fun W=>Hid (W.heap[w.heap.size]? =some (.cells #[.int .i64 (d0:Int),.int .i64 (d1:Int),.string str,.int .i64 (d2:Int),.int .i64 (d3:Int),.int .i64 (d4:Int),.int .i64 (d5:Int),.int .i64 cnt,.int .i64 pl,.string root,.slice ap n1 c1,.int .i64 si,.slice aq n2 c2,.slice ar n3 c3] 47 (0,0)))∧Hid (Below w.heap.size w W)∧Hid (W.heap.size=w.heap.size+1)) ⟨heap_alloc_new _ _,(Below.refl _ _).alloc (Nat.le_refl _) _,by show _=_;simp⟩ ?_
 rintro W ⟨HG,HB,HWS⟩
 have HBW0:Hid (∀V,Below (w.heap.size+1) W V→Below w.heap.size w V):=hid (fun V h=>HB.o.trans (h.mono (Nat.le_succ _)))
 obtain ⟨N,hN⟩:=ex_eq w.heap.size
 have HN:=hid hN
 have HBW:Hid (∀V,Below (N+1) W V→Below w.heap.size w V):=hid (fun V h=>HBW0.o V (by rw [hN];exact h))
 rw [hN] at HG HB HWS ⊢
 clear hN HBW0
 have HCC:Hid (∀V,Below (N+1) W V→V.cell? ⟨N,0,none⟩=some (.int .i64 (d0:Int))∧V.cell? ⟨N,1,none⟩=some (.int .i64 (d1:Int))∧V.cell? ⟨N,2,none⟩=some (.string str)∧V.cell? ⟨N,3,none⟩=some (.int .i64 (d2:Int))∧V.cell? ⟨N,4,none⟩=some (.int .i64 (d3:Int))∧V.cell? ⟨N,5,none⟩=some (.int .i64 (d4:Int))∧V.cell? ⟨N,6,none⟩=some (.int .i64 (d5:Int))∧V.cell? ⟨N,7,none⟩=some (.int .i64 cnt)∧V.cell? ⟨N,8,none⟩=some (.int .i64 pl)∧V.cell? ⟨N,9,none⟩=some (.string root)∧V.cell? ⟨N,10,none⟩=some (.slice ap n1 c1)∧V.cell? ⟨N,11,none⟩=some (.int .i64 si)∧V.cell? ⟨N,12,none⟩=some (.slice aq n2 c2)∧V.cell? ⟨N,13,none⟩=some (.slice ar n3 c3)):=hid (fun V h=>row14 ((h.block N (Nat.lt_succ_self _)).trans HG.o))
 have HST:Hid (∀V V',Below (N+1) W V→Below V.heap.size V V'→Below (N+1) W V'):=hid (fun V V' h h'=>h.trans (h'.mono (by have:=h.size;have:=HWS.o;omega)))
 have HL:Hid (Below (N+1) W W.drew):=hid (Below.refl _ _).drew
 obtain ⟨VD,hVD⟩:=ex_eq W.drew
 rw [hVD] at HL
 refine Kit.wp_region_gplan (fun V=>V.cell? ⟨N,0,none⟩=some (.int .i64 (d0:Int))∧V.cell? ⟨N,1,none⟩=some (.int .i64 (d1:Int))∧V.cell? ⟨N,2,none⟩=some (.string str)∧V.cell? ⟨N,3,none⟩=some (.int .i64 (d2:Int))∧V.cell? ⟨N,4,none⟩=some (.int .i64 (d3:Int))∧V.cell? ⟨N,5,none⟩=some (.int .i64 (d4:Int))∧V.cell? ⟨N,6,none⟩=some (.int .i64 (d5:Int))∧V.cell? ⟨N,7,none⟩=some (.int .i64 cnt)∧V.cell? ⟨N,8,none⟩=some (.int .i64 pl)∧V.cell? ⟨N,9,none⟩=some (.string root)∧V.cell? ⟨N,10,none⟩=some (.slice ap n1 c1)∧V.cell? ⟨N,11,none⟩=some (.int .i64 si)∧V.cell? ⟨N,12,none⟩=some (.slice aq n2 c2)∧V.cell? ⟨N,13,none⟩=some (.slice ar n3 c3)) [(true,0),(true,1),(true,3),(true,4),(true,6),(true,7),(true,8),(true,10),(true,11),(true,12),(true,14),(true,15),(true,17),(true,18),(true,20),(true,21),(false,2),(false,5),(false,9),(false,13),(false,16),(false,19),(false,22),(false,23),(true,24)] (by kernel_rfl) (by kernel_rfl) (by kernel_rfl) (by kernel_rfl) (by rw [hVD];exact HCC.o _ HL.o) ?_
 rw [hVD]
 clear hVD
 iterate 16 (refine Kit.ghd (h:= ?_))
 refine Kit.gplan_op (by rfl) (by rfl) fun K hK=> ?_
 go_simp
 go_at_call 124
 with_reducible refine (num43_any d0 (by have:=HQ.o;omega) _).mono ?_
 rintro e w2 ⟨rfl,h2⟩
 have HM:Hid (Below (N+1) W w2):=hid (HST.o _ _ HL.o h2)
 clear h2 HL
 have HL:=HM
 clear HM
 refine hK _ _ (HCC.o _ HL.o) ?_
 clear hK K
 refine Kit.gplan_op (by rfl) (by rfl) fun K hK=> ?_
 go_simp
 go_at_call 124
 with_reducible refine (num43_any d1 (by have:=HQ.o;omega) _).mono ?_
 rintro e w2 ⟨rfl,h2⟩
 have HM:Hid (Below (N+1) W w2):=hid (HST.o _ _ HL.o h2)
 clear h2 HL
 have HL:=HM
 clear HM
 refine hK _ _ (HCC.o _ HL.o) ?_
 clear hK K
 refine Kit.gplan_op (by rfl) (by rfl) fun K hK=> ?_
 go_simp
 go_at_call 126
 with_reducible refine (sum43_any str _).mono ?_
 rintro e w2 ⟨rfl,h2⟩
 have HM:Hid (Below (N+1) W w2):=hid (HST.o _ _ HL.o h2)
 clear h2 HL
 have HL:=HM
 clear HM
 refine hK _ _ (HCC.o _ HL.o) ?_
 clear hK K
 refine Kit.gplan_op (by rfl) (by rfl) fun K hK=> ?_
 go_simp
 go_at_call 124
 with_reducible refine (num43_any d2 (by have:=HQ.o;omega) _).mono ?_
 rintro e w2 ⟨rfl,h2⟩
 have HM:Hid (Below (N+1) W w2):=hid (HST.o _ _ HL.o h2)
 clear h2 HL
 have HL:=HM
 clear HM
 refine hK _ _ (HCC.o _ HL.o) ?_
 clear hK K
 refine Kit.gplan_op (by rfl) (by rfl) fun K hK=> ?_
 go_simp
 go_at_call 124
 with_reducible refine (num43_any d3 (by have:=HQ.o;omega) _).mono ?_
 rintro e w2 ⟨rfl,h2⟩
 have HM:Hid (Below (N+1) W w2):=hid (HST.o _ _ HL.o h2)
 clear h2 HL
 have HL:=HM
 clear HM
 refine hK _ _ (HCC.o _ HL.o) ?_
 clear hK K
 refine Kit.gplan_op (by rfl) (by rfl) fun K hK=> ?_
 go_simp
 go_at_call 124
 with_reducible refine (num43_any d4 (by have:=HQ.o;omega) _).mono ?_
 rintro e w2 ⟨rfl,h2⟩
 have HM:Hid (Below (N+1) W w2):=hid (HST.o _ _ HL.o h2)
 clear h2 HL
 have HL:=HM
 clear HM
 refine hK _ _ (HCC.o _ HL.o) ?_
 clear hK K
 refine Kit.gplan_op (by rfl) (by rfl) fun K hK=> ?_
 go_simp
 go_at_call 124
 with_reducible refine (num43_any d5 (by have:=HQ.o;omega) _).mono ?_
 rintro e w2 ⟨rfl,h2⟩
 have HM:Hid (Below (N+1) W w2):=hid (HST.o _ _ HL.o h2)
 clear h2 HL
 have HL:=HM
 clear HM
 refine hK _ _ (HCC.o _ HL.o) ?_
 clear hK K
 rename World=>wl
 refine Kit.gplan_op (by rfl) (by rfl) fun K hK=> ?_
 go_simp
 have HZB:Hid (Below (N+1) W (wl.alloc (.cells #[.int .i64 1,.int .u64 (d0:Int),.int .i64 0,.bool false,.string { data:= #[] },.int .i64 0,.int .i64 1,.int .u64 (d1:Int),.int .i64 0,.bool false,.string { data:= #[] },.int .i64 0,.int .i64 6,.int .u64 0,.int .i64 0,.bool false,.string str,.int .i64 0,.int .i64 1,.int .u64 (d2:Int),.int .i64 0,.bool false,.string { data:= #[] },.int .i64 0,.int .i64 1,.int .u64 (d3:Int),.int .i64 0,.bool false,.string { data:= #[] },.int .i64 0,.int .i64 1,.int .u64 (d4:Int),.int .i64 0,.bool false,.string { data:= #[] },.int .i64 0,.int .i64 1,.int .u64 (d5:Int),.int .i64 0,.bool false,.string { data:= #[] },.int .i64 0] 187))):=hid (HL.o.alloc (by have:=HL.o.size;have:=HWS.o;omega) _)
 refine hK _ _ (HCC.o _ HZB.o) ?_
 clear hK K
 iterate 1 (refine Kit.ghd (h:= ?_))
 refine Kit.gdn (h:=?_)
 have HVA:Hid (VsAt (wl.alloc (.cells #[.int .i64 1,.int .u64 (d0:Int),.int .i64 0,.bool false,.string { data:= #[] },.int .i64 0,.int .i64 1,.int .u64 (d1:Int),.int .i64 0,.bool false,.string { data:= #[] },.int .i64 0,.int .i64 6,.int .u64 0,.int .i64 0,.bool false,.string str,.int .i64 0,.int .i64 1,.int .u64 (d2:Int),.int .i64 0,.bool false,.string { data:= #[] },.int .i64 0,.int .i64 1,.int .u64 (d3:Int),.int .i64 0,.bool false,.string { data:= #[] },.int .i64 0,.int .i64 1,.int .u64 (d4:Int),.int .i64 0,.bool false,.string { data:= #[] },.int .i64 0,.int .i64 1,.int .u64 (d5:Int),.int .i64 0,.bool false,.string { data:= #[] },.int .i64 0] 187)) (some ⟨wl.heap.size,0,none⟩) [RV.uint d0,RV.uint d1,RV.sum str,RV.uint d2,RV.uint d3,RV.uint d4,RV.uint d5]):=hid (vs_of_row (heap_alloc_new wl _) (by rfl))
 go_wp2_with fail
 go_ret
 exact ⟨_,rfl,_,rfl,HOK.o,HTT.o,HVA.o,HBW.o _ HZB.o⟩
theorem signedB_ok (hol vlt:Int) (str:ByteArray) (ix sz day ser cnt pl:Int) (root:ByteArray) (ap:Option Addr) (n1 c1:Nat) (si:Int) (aq:Option Addr) (n2 c2:Nat) (ar:Option Addr) (n3 c3:Nat) (pa pt sq:List ByteArray) (hv:SgV ⟨hol,vlt,str,ix,sz,day,ser,cnt,pl,root,pa,si,pt,sq⟩) (T:List Nat) (hT:encS ⟨hol,vlt,str,ix,sz,day,ser,cnt,pl,root,pa,si,pt,sq⟩=T) (w:World):Calls Tryz.prog 117 #[.agg #[.int .i64 hol,.int .i64 vlt,.string str,.int .i64 ix,.int .i64 sz,.int .i64 day,.int .i64 ser,.int .i64 cnt,.int .i64 pl,.string root,.slice ap n1 c1,.int .i64 si,.slice aq n2 c2,.slice ar n3 c3]] w fun e w'=> ∃ad L cap,e= .returned (.slice ad L cap)∧T.length=L∧L≤cap∧BytesAt w' ad T∧(ad=none→cap=0)∧Below w.heap.size w w':=by
 have HSI:Hid (∀w,Calls Tryz.prog 123 #[.agg #[.int .i64 hol,.int .i64 vlt,.string str,.int .i64 ix,.int .i64 sz,.int .i64 day,.int .i64 ser,.int .i64 cnt,.int .i64 pl,.string root,.slice ap n1 c1,.int .i64 si,.slice aq n2 c2,.slice ar n3 c3]] w fun e w'=> ∃(b:Nat) (l:List RV),e= .returned (.slice (some ⟨b,0,none⟩) 7 7)∧l.length=7∧(∀x ∈ l,x.ok)∧l.flatMap RV.enc=T∧VsAt w' (some ⟨b,0,none⟩) l∧Below w.heap.size w w'):=hid (fun w=>by
  have h:=signed43_any hol vlt str ix sz day ser cnt pl root ap n1 c1 si aq n2 c2 ar n3 c3 pa pt sq hv w
  rw [hT] at h
  exact h)
 have HTL:Hid (T.length≤1048576):=hid (by rw [← hT];have:=encS_lenV hv;omega)
 clear hv hT
 go_enter Tryz.func117,Tryz.ntmps117
 go_upto_region 1 with fail
 refine wp_over (fun W=>Hid (W.heap[w.heap.size]? =some (.cells #[.int .i64 hol,.int .i64 vlt,.string str,.int .i64 ix,.int .i64 sz,.int .i64 day,.int .i64 ser,.int .i64 cnt,.int .i64 pl,.string root,.slice ap n1 c1,.int .i64 si,.slice aq n2 c2,.slice ar n3 c3] 47 (0,0)))∧Hid (Below w.heap.size w W)∧Hid (W.heap.size=w.heap.size+1)) ⟨heap_alloc_new _ _,(Below.refl _ _).alloc (Nat.le_refl _) _,by show _=_;simp⟩ ?_
 rintro W ⟨HG,HB,HWS⟩
 have HBW0:Hid (∀V,Below (w.heap.size+1) W V→Below w.heap.size w V):=hid (fun V h=>HB.o.trans (h.mono (Nat.le_succ _)))
 obtain ⟨N,hN⟩:=ex_eq w.heap.size
 have HN:=hid hN
 have HBW:Hid (∀V,Below (N+1) W V→Below w.heap.size w V):=hid (fun V h=>HBW0.o V (by rw [hN];exact h))
 rw [hN] at HG HB HWS ⊢
 clear hN HBW0
 have HST:Hid (∀V V',Below (N+1) W V→Below V.heap.size V V'→Below (N+1) W V'):=hid (fun V V' h h'=>h.trans (h'.mono (by have:=h.size;have:=HWS.o;omega)))
 have HL:Hid (Below (N+1) W W):=hid (Below.refl _ _)
 obtain ⟨q0,q1,q2,q3,q4,q5,q6,q7,q8,q9,q10,q11,q12,q13⟩:=row14 HG.o
 go_wp2_with (first
  | (go_at_call 123
     (with_reducible refine (HSI.o _).mono ?_)
     rintro e w2 ⟨b,l,rfl,hl,hok,hte,hva,h2⟩
     have HLL:=hid hl
     have HOK:=hid hok
     have HTE:=hid hte
     have HVA:=hid hva
     have H2:Hid (Below (N+1) W w2):=hid (HST.o _ _ HL.o h2)
     clear hl hok hte hva h2 q0 q1 q2 q3 q4 q5 q6 q7 q8 q9 q10 q11 q12 q13)
  | (go_at_call 127
     (with_reducible refine (refEncode_any (some ⟨b,0,none⟩) 7 7 l HLL.o (by decide) HOK.o T HTE.o HTL.o _ HVA.o).mono ?_)
     rintro e w3 ⟨ad,L,cap,rfl,hl3,hc3,hb3,hn3,h3⟩
     have HL3:=hid hl3
     have HC3:=hid hc3
     have HB3:=hid hb3
     have HN3:=hid hn3
     have H3:Hid (Below (N+1) W w3):=hid (HST.o _ _ H2.o h3)
     clear hl3 hc3 hb3 hn3 h3))
 go_ret
 exact ⟨ad,L,cap,rfl,HL3.o,HC3.o,HB3.o,HN3.o,HBW.o _ H3.o⟩
theorem refLeafR_ok (hol vlt:Int) (str:ByteArray) (ix sz day ser cnt pl:Int) (root:ByteArray) (ap:Option Addr) (n1 c1:Nat) (si:Int) (aq:Option Addr) (n2 c2:Nat) (ar:Option Addr) (n3 c3:Nat) (pa pt sq:List ByteArray) (hv:SgV ⟨hol,vlt,str,ix,sz,day,ser,cnt,pl,root,pa,si,pt,sq⟩) (T:List Nat) (hT:leafR ⟨hol,vlt,str,ix,sz,day,ser,cnt,pl,root,pa,si,pt,sq⟩=T) (w:World):Calls Tryz.prog 30 #[.agg #[.int .i64 hol,.int .i64 vlt,.string str,.int .i64 ix,.int .i64 sz,.int .i64 day,.int .i64 ser,.int .i64 cnt,.int .i64 pl,.string root,.slice ap n1 c1,.int .i64 si,.slice aq n2 c2,.slice ar n3 c3]] w fun e w'=> ∃u:ByteArray,e= .returned (.string u)∧nb u=T∧u.size=32∧Below w.heap.size w w':=by
 have HSB:=hid (fun w=>signedB_ok hol vlt str ix sz day ser cnt pl root ap n1 c1 si aq n2 c2 ar n3 c3 pa pt sq hv _ rfl w)
 have HEL:Hid ((encS ⟨hol,vlt,str,ix,sz,day,ser,cnt,pl,root,pa,si,pt,sq⟩).length≤100):=hid (encS_lenV hv)
 have HT:Hid (Mrk.leaf (encS ⟨hol,vlt,str,ix,sz,day,ser,cnt,pl,root,pa,si,pt,sq⟩)=T):=hid hT
 obtain ⟨E,hE⟩:=ex_eq (encS ⟨hol,vlt,str,ix,sz,day,ser,cnt,pl,root,pa,si,pt,sq⟩)
 rw [hE] at HSB HEL HT
 clear hv hT hE
 go_enter Tryz.func30,Tryz.ntmps30
 go_upto_region 1 with fail
 refine wp_over (fun W=>Hid (W.heap[w.heap.size]? =some (.cells #[.int .i64 hol,.int .i64 vlt,.string str,.int .i64 ix,.int .i64 sz,.int .i64 day,.int .i64 ser,.int .i64 cnt,.int .i64 pl,.string root,.slice ap n1 c1,.int .i64 si,.slice aq n2 c2,.slice ar n3 c3] 47 (0,0)))∧Hid (Below w.heap.size w W)∧Hid (W.heap.size=w.heap.size+1)) ⟨heap_alloc_new _ _,(Below.refl _ _).alloc (Nat.le_refl _) _,by show _=_;simp⟩ ?_
 rintro W ⟨HG,HB,HWS⟩
 have HBW0:Hid (∀V,Below (w.heap.size+1) W V→Below w.heap.size w V):=hid (fun V h=>HB.o.trans (h.mono (Nat.le_succ _)))
 obtain ⟨N,hN⟩:=ex_eq w.heap.size
 have HN:=hid hN
 have HBW:Hid (∀V,Below (N+1) W V→Below w.heap.size w V):=hid (fun V h=>HBW0.o V (by rw [hN];exact h))
 rw [hN] at HG HB HWS ⊢
 clear hN HBW0
 have HST:Hid (∀V V',Below (N+1) W V→Below V.heap.size V V'→Below (N+1) W V'):=hid (fun V V' h h'=>h.trans (h'.mono (by have:=h.size;have:=HWS.o;omega)))
 have HL:Hid (Below (N+1) W W):=hid (Below.refl _ _)
 obtain ⟨q0,q1,q2,q3,q4,q5,q6,q7,q8,q9,q10,q11,q12,q13⟩:=row14 HG.o
 go_wp2_with (first
  | (go_at_call 117
     (with_reducible refine (HSB.o _).mono ?_)
     rintro e w2 ⟨ad,L,cap,rfl,hl3,hc3,hb3,hn3,h2⟩
     have HL3:=hid hl3
     have HB3:=hid hb3
     have HN3:=hid hn3
     have H2:Hid (Below (N+1) W w2):=hid (HST.o _ _ HL.o h2)
     clear hl3 hc3 hb3 hn3 h2 q0 q1 q2 q3 q4 q5 q6 q7 q8 q9 q10 q11 q12 q13)
  | (go_at_call 116
     (with_reducible refine (refLeaf_l ad cap E L HL3.o HN3.o (by have:=HEL.o;have:=HL3.o;omega) _ HB3.o T HT.o).mono ?_)
     rintro e w3 ⟨u,rfl,hu,hz,h3⟩
     have HU:=hid hu
     have HZ:=hid hz
     have H3:Hid (Below (N+1) W w3):=hid (HST.o _ _ H2.o h3)
     clear hu hz h3))
 go_ret
 exact ⟨u,rfl,HU.o,HZ.o,HBW.o _ H3.o⟩
theorem refBatch_ok (root:ByteArray) (hr:root.size=32) (n:Nat) (hn:n≤1000) (T:List Nat) (hT:batchR (nb root) n=T) (w:World):Calls Tryz.prog 99 #[.string root,.int .i64 (n:Int)] w fun e w'=> ∃u:ByteArray,e= .returned (.string u)∧nb u=T∧u.size=32∧Below w.heap.size w w':=by
 have HOK:Hid (∀x ∈ [RV.text { data:= #[114,101,99,101,105,112,116,115] },RV.sum root,RV.uint n],x.ok):=hid (by
  intro x hx
  simp only [List.mem_cons,List.not_mem_nil,or_false] at hx
  rcases hx with rfl | rfl | rfl<;> unfold RV.ok<;> simp only
  ·show ByteArray.size { data:= #[114,101,99,101,105,112,116,115] }≤_;rw [word_size];decide
  ·exact hr
  ·omega)
 have HTT:Hid ([RV.text { data:= #[114,101,99,101,105,112,116,115] },RV.sum root,RV.uint n].flatMap RV.enc=encB (nb root) n):=hid (by
  show (num (ByteArray.size { data:= #[114,101,99,101,105,112,116,115] })++nb { data:= #[114,101,99,101,105,112,116,115] })++(nb root++(num n++[]))=_
  rw [word_size,word_lit]
  unfold encB
  simp)
 have HEL:=hid (encB_len (nb root) (by rw [nb_length];exact hr) n hn)
 have HT:Hid (Sha.sum (encB (nb root) n)=T):=hid hT
 have HNN:=hid hn
 have HVL:Hid ([RV.text { data:= #[114,101,99,101,105,112,116,115] },RV.sum root,RV.uint n].length=3):=hid rfl
 obtain ⟨E,hE⟩:=ex_eq (encB (nb root) n)
 rw [hE] at HEL HT HTT
 clear hE hT hr hn
 go_enter Tryz.func99,Tryz.ntmps99
 go_wp2_with (first
  | (go_at_call 126
     (with_reducible refine (sum43_any root _).mono ?_)
     rintro e w1 ⟨rfl,h1⟩
     have H1:=hid h1
     clear h1)
  | (go_at_call 124
     (with_reducible refine (num43_any n (by have:=HNN.o;omega) _).mono ?_)
     rintro e w2 ⟨rfl,h2⟩
     have H2:Hid (Below w.heap.size w w2):=hid (H1.o.trans (h2.mono H1.o.size))
     have HZB:Hid (Below w.heap.size w (w2.alloc (.cells #[.int .i64 5,.int .u64 0,.int .i64 0,.bool false,.string { data:= #[114,101,99,101,105,112,116,115] },.int .i64 0,.int .i64 6,.int .u64 0,.int .i64 0,.bool false,.string root,.int .i64 0,.int .i64 1,.int .u64 (n:Int),.int .i64 0,.bool false,.string { data:= #[] },.int .i64 0] 187))):=hid (H2.o.alloc H2.o.size _)
     have HVA:Hid (VsAt (w2.alloc (.cells #[.int .i64 5,.int .u64 0,.int .i64 0,.bool false,.string { data:= #[114,101,99,101,105,112,116,115] },.int .i64 0,.int .i64 6,.int .u64 0,.int .i64 0,.bool false,.string root,.int .i64 0,.int .i64 1,.int .u64 (n:Int),.int .i64 0,.bool false,.string { data:= #[] },.int .i64 0] 187)) (some ⟨w2.heap.size,0,none⟩) [RV.text { data:= #[114,101,99,101,105,112,116,115] },RV.sum root,RV.uint n]):=hid (vs_of_row (heap_alloc_new w2 _) (by rfl))
     clear h2)
  | (go_at_call 127
     (with_reducible refine (refEncode_any (some ⟨w2.heap.size,0,none⟩) 3 3 [RV.text { data:= #[114,101,99,101,105,112,116,115] },RV.sum root,RV.uint n] HVL.o (by decide) HOK.o E HTT.o (by have:=HEL.o;omega) _ HVA.o).mono ?_)
     rintro e w3 ⟨ad,L,cap,rfl,hl3,hc3,hb3,hn3,h3⟩
     have HL3:=hid hl3
     have HB3:=hid hb3
     have HN3:=hid hn3
     have H3:Hid (Below w.heap.size w w3):=hid (HZB.o.trans (h3.mono HZB.o.size))
     clear hl3 hc3 hb3 hn3 h3)
  | (go_at_call 190
     (with_reducible refine (refSum_l ad cap E L HL3.o HN3.o (by have:=HEL.o;have:=HL3.o;omega) _ HB3.o).mono ?_)
     rintro e w4 ⟨u,rfl,hu,h4⟩
     have HU:Hid (nb u=T):=hid (by rw [← HT.o];exact hu)
     have HZ:Hid (u.size=32):=hid (by rw [← nb_length,hu];exact Sha.sum_length _)
     have H4:Hid (Below w.heap.size w w4):=hid (H3.o.trans (h4.mono H3.o.size))
     clear hu h4))
 go_ret
 exact ⟨u,rfl,HU.o,HZ.o,H4.o⟩
theorem fits_scheme (B H:Int) (dg:ByteArray) (idx:Int) (a1:Option Addr) (n1 k1:Nat) (a2:Option Addr) (n2 k2:Nat) (hn1:n1<9223372036854775808) (hn2:n2<9223372036854775808) (hv: ¬SV B H) (w:World):
    Calls Tryz.prog 210 #[.agg #[.int .i64 (B),.int .i64 (H)],.string dg,.agg #[.int .i64 idx,.slice a1 n1 k1,.slice a2 n2 k2]] w fun e w'=>e= .returned (.bool false)∧Below w.heap.size w w':=by
 have HV:=hid (fun w=>refSchemeValid_any (B) (H) w)
 rw [decide_eq_false hv] at HV
 clear hv
 go_enter Tryz.func210,Tryz.ntmps210
 go_upto_region 1 with fail
 refine wp_over (fun W=>Hid (W.heap[w.heap.size]? =some (.cells #[.int .i64 (B),.int .i64 (H)] 23 (0,0)))∧Hid (W.heap[w.heap.size+1]? =some (.cells #[.int .i64 idx,.slice a1 n1 k1,.slice a2 n2 k2] 45 (0,0)))∧Hid (Below w.heap.size w W)∧Hid (W.heap.size=w.heap.size+2)) ⟨?_,?_,?_,?_⟩ ?_
 ·exact (Below.heap_alloc _ _ _ (by simp)).trans (heap_alloc_new _ _)
 ·have h:=heap_alloc_new (w.alloc (.cells #[.int .i64 (B),.int .i64 (H)] 23)) (.cells #[.int .i64 idx,.slice a1 n1 k1,.slice a2 n2 k2] 45)
  rwa [World.size_alloc] at h
 ·exact ((Below.refl _ _).alloc (Nat.le_refl _) _).alloc (by simp) _
 ·show _=_
  simp
 rintro W ⟨HG1,HG2,HB,HWN⟩
 obtain ⟨N,hN⟩:=ex_eq w.heap.size
 rw [hN] at HG1 HG2 HB HWN ⊢
 have HN:=hid hN
 clear hN
 have HCE:Hid (∀V,Below (N+2) W V→V.cell? ⟨N,0,none⟩=some (.int .i64 (B))∧V.cell? ⟨N,1,none⟩=some (.int .i64 (H))∧V.cell? ⟨N+1,0,none⟩=some (.int .i64 idx)∧V.cell? ⟨N+1,1,none⟩=some (.slice a1 n1 k1)∧V.cell? ⟨N+1,2,none⟩=some (.slice a2 n2 k2)):=hid (fun V h=>by
  have e1:=(h.block N (by omega)).trans HG1.o
  have e2:=(h.block (N+1) (by omega)).trans HG2.o
  exact ⟨cr e1,cr e1,cr e2,cr e2,cr e2⟩)
 have HST:Hid (∀V V',Below (N+2) W V→Below V.heap.size V V'→Below (N+2) W V'):=hid (fun V V' h h'=>h.trans (h'.mono (by have:=h.size;have:=HWN.o;omega)))
 have HEND:Hid (∀V,Below (N+2) W V→Below w.heap.size w V):=hid (fun V h=>by rw [HN.o];exact HB.o.trans (h.mono (by omega)))
 have HR0:Hid (Below (N+2) W W):=hid (Below.refl _ _)
 go_upto_region 1 with fail
 refine Kit.wp_region_hplan (fun V=>V.cell? ⟨N,0,none⟩=some (.int .i64 (B))∧V.cell? ⟨N,1,none⟩=some (.int .i64 (H))∧V.cell? ⟨N+1,0,none⟩=some (.int .i64 idx)∧V.cell? ⟨N+1,1,none⟩=some (.slice a1 n1 k1)∧V.cell? ⟨N+1,2,none⟩=some (.slice a2 n2 k2)) [(true,0),(false,1),(true,2),(true,3),(true,4),(true,5),(true,6),(true,7),(true,8),(true,9),(true,10),(true,11),(true,12),(true,13),(true,14),(true,15),(true,16),(true,17),(true,18),(true,19),(true,20),(true,21),(true,23),(true,24),(false,22),(false,25),(true,26),(true,27),(true,28),(true,29),(true,30),(true,31),(true,32),(true,33),(true,34),(true,35),(true,36),(true,37),(false,38),(true,39),(true,40)] (by kernel_rfl) (by kernel_rfl) (by kernel_rfl) (by kernel_rfl) (HCE.o _ HR0.o.drew) ?_
 iterate 1 (refine Kit.hhd (h:= ?_))
 refine Kit.hplan_op (by rfl) (by rfl) fun K hK=> ?_
 go_simp
 go_at_call 67
 refine (HV.o _).mono ?_
 rintro e w2 ⟨rfl,h2⟩
 have H2:=hid (HST.o _ _ HR0.o.drew h2)
 clear h2
 refine hK _ _ (HCE.o _ H2.o) ?_
 clear hK K
 iterate 22 (refine Kit.hhd (h:= ?_))
 refine Kit.hsk (h:=?_)
 refine Kit.hsk (h:=?_)
 iterate 12 (refine Kit.hhd (h:= ?_))
 refine Kit.hsk (h:=?_)
 iterate 2 (refine Kit.hhd (h:= ?_))
 refine Kit.hdn (h:=?_)
 go_wp2_with fail
 go_ret
 exact ⟨by first | rfl | simp,HEND.o _ H2.o⟩
theorem fits_size (b t:Nat) (hsv:SV (b:Int) (t:Int)) (dg:ByteArray) (idx:Int) (a1:Option Addr) (n1 k1:Nat) (a2:Option Addr) (n2 k2:Nat) (hn1:n1<9223372036854775808) (hn2:n2<9223372036854775808) (hd: ¬dg.size=32) (w:World):
    Calls Tryz.prog 210 #[.agg #[.int .i64 (b:Int),.int .i64 (t:Int)],.string dg,.agg #[.int .i64 idx,.slice a1 n1 k1,.slice a2 n2 k2]] w fun e w'=>e= .returned (.bool false)∧Below w.heap.size w w':=by
 have HV:=hid (fun w=>refSchemeValid_any (b:Int) (t:Int) w)
 rw [decide_eq_true hsv] at HV
 have hdd:(((dg.size:Nat):Int)==32)=false:=by rw [beq_eq_false_iff_ne];omega
 clear hsv
 go_enter Tryz.func210,Tryz.ntmps210
 go_upto_region 1 with fail
 refine wp_over (fun W=>Hid (W.heap[w.heap.size]? =some (.cells #[.int .i64 (b:Int),.int .i64 (t:Int)] 23 (0,0)))∧Hid (W.heap[w.heap.size+1]? =some (.cells #[.int .i64 idx,.slice a1 n1 k1,.slice a2 n2 k2] 45 (0,0)))∧Hid (Below w.heap.size w W)∧Hid (W.heap.size=w.heap.size+2)) ⟨?_,?_,?_,?_⟩ ?_
 ·exact (Below.heap_alloc _ _ _ (by simp)).trans (heap_alloc_new _ _)
 ·have h:=heap_alloc_new (w.alloc (.cells #[.int .i64 (b:Int),.int .i64 (t:Int)] 23)) (.cells #[.int .i64 idx,.slice a1 n1 k1,.slice a2 n2 k2] 45)
  rwa [World.size_alloc] at h
 ·exact ((Below.refl _ _).alloc (Nat.le_refl _) _).alloc (by simp) _
 ·show _=_
  simp
 rintro W ⟨HG1,HG2,HB,HWN⟩
 obtain ⟨N,hN⟩:=ex_eq w.heap.size
 rw [hN] at HG1 HG2 HB HWN ⊢
 have HN:=hid hN
 clear hN
 have HCE:Hid (∀V,Below (N+2) W V→V.cell? ⟨N,0,none⟩=some (.int .i64 (b:Int))∧V.cell? ⟨N,1,none⟩=some (.int .i64 (t:Int))∧V.cell? ⟨N+1,0,none⟩=some (.int .i64 idx)∧V.cell? ⟨N+1,1,none⟩=some (.slice a1 n1 k1)∧V.cell? ⟨N+1,2,none⟩=some (.slice a2 n2 k2)):=hid (fun V h=>by
  have e1:=(h.block N (by omega)).trans HG1.o
  have e2:=(h.block (N+1) (by omega)).trans HG2.o
  exact ⟨cr e1,cr e1,cr e2,cr e2,cr e2⟩)
 have HST:Hid (∀V V',Below (N+2) W V→Below V.heap.size V V'→Below (N+2) W V'):=hid (fun V V' h h'=>h.trans (h'.mono (by have:=h.size;have:=HWN.o;omega)))
 have HEND:Hid (∀V,Below (N+2) W V→Below w.heap.size w V):=hid (fun V h=>by rw [HN.o];exact HB.o.trans (h.mono (by omega)))
 have HR0:Hid (Below (N+2) W W):=hid (Below.refl _ _)
 go_upto_region 1 with fail
 refine Kit.wp_region_hplan (fun V=>V.cell? ⟨N,0,none⟩=some (.int .i64 (b:Int))∧V.cell? ⟨N,1,none⟩=some (.int .i64 (t:Int))∧V.cell? ⟨N+1,0,none⟩=some (.int .i64 idx)∧V.cell? ⟨N+1,1,none⟩=some (.slice a1 n1 k1)∧V.cell? ⟨N+1,2,none⟩=some (.slice a2 n2 k2)) [(true,0),(false,1),(true,2),(true,3),(true,4),(true,5),(true,6),(true,7),(true,8),(true,9),(true,10),(true,11),(true,12),(true,13),(true,14),(true,15),(true,16),(true,17),(true,18),(true,19),(true,20),(true,21),(true,23),(true,24),(false,22),(false,25),(true,26),(true,27),(true,28),(true,29),(true,30),(true,31),(true,32),(true,33),(true,34),(true,35),(true,36),(true,37),(false,38),(true,39),(true,40)] (by kernel_rfl) (by kernel_rfl) (by kernel_rfl) (by kernel_rfl) (HCE.o _ HR0.o.drew) ?_
 iterate 1 (refine Kit.hhd (h:= ?_))
 refine Kit.hplan_op (by rfl) (by rfl) fun K hK=> ?_
 go_simp
 go_at_call 67
 refine (HV.o _).mono ?_
 rintro e w2 ⟨rfl,h2⟩
 have H2:=hid (HST.o _ _ HR0.o.drew h2)
 clear h2
 refine hK _ _ (HCE.o _ H2.o) ?_
 clear hK K
 iterate 22 (refine Kit.hhd (h:= ?_))
 refine Kit.hsk (h:=?_)
 refine Kit.hsk (h:=?_)
 iterate 12 (refine Kit.hhd (h:= ?_))
 refine Kit.hsk (h:=?_)
 iterate 2 (refine Kit.hhd (h:= ?_))
 refine Kit.hdn (h:=?_)
 go_wp2_with fail
 go_ret
 exact ⟨by first | rfl | simp,HEND.o _ H2.o⟩
theorem fits_neg (b t:Nat) (hsv:SV (b:Int) (t:Int)) (dg:ByteArray) (idx:Int) (a1:Option Addr) (n1 k1:Nat) (a2:Option Addr) (n2 k2:Nat) (hn1:n1<9223372036854775808) (hn2:n2<9223372036854775808) (hd:dg.size=32) (h0: ¬0≤idx) (w:World):
    Calls Tryz.prog 210 #[.agg #[.int .i64 (b:Int),.int .i64 (t:Int)],.string dg,.agg #[.int .i64 idx,.slice a1 n1 k1,.slice a2 n2 k2]] w fun e w'=>e= .returned (.bool false)∧Below w.heap.size w w':=by
 have HV:=hid (fun w=>refSchemeValid_any (b:Int) (t:Int) w)
 rw [decide_eq_true hsv] at HV
 have hdd:(((dg.size:Nat):Int)==32)=true:=by rw [hd];rfl
 clear hsv
 go_enter Tryz.func210,Tryz.ntmps210
 go_upto_region 1 with fail
 refine wp_over (fun W=>Hid (W.heap[w.heap.size]? =some (.cells #[.int .i64 (b:Int),.int .i64 (t:Int)] 23 (0,0)))∧Hid (W.heap[w.heap.size+1]? =some (.cells #[.int .i64 idx,.slice a1 n1 k1,.slice a2 n2 k2] 45 (0,0)))∧Hid (Below w.heap.size w W)∧Hid (W.heap.size=w.heap.size+2)) ⟨?_,?_,?_,?_⟩ ?_
 ·exact (Below.heap_alloc _ _ _ (by simp)).trans (heap_alloc_new _ _)
 ·have h:=heap_alloc_new (w.alloc (.cells #[.int .i64 (b:Int),.int .i64 (t:Int)] 23)) (.cells #[.int .i64 idx,.slice a1 n1 k1,.slice a2 n2 k2] 45)
  rwa [World.size_alloc] at h
 ·exact ((Below.refl _ _).alloc (Nat.le_refl _) _).alloc (by simp) _
 ·show _=_
  simp
 rintro W ⟨HG1,HG2,HB,HWN⟩
 obtain ⟨N,hN⟩:=ex_eq w.heap.size
 rw [hN] at HG1 HG2 HB HWN ⊢
 have HN:=hid hN
 clear hN
 have HCE:Hid (∀V,Below (N+2) W V→V.cell? ⟨N,0,none⟩=some (.int .i64 (b:Int))∧V.cell? ⟨N,1,none⟩=some (.int .i64 (t:Int))∧V.cell? ⟨N+1,0,none⟩=some (.int .i64 idx)∧V.cell? ⟨N+1,1,none⟩=some (.slice a1 n1 k1)∧V.cell? ⟨N+1,2,none⟩=some (.slice a2 n2 k2)):=hid (fun V h=>by
  have e1:=(h.block N (by omega)).trans HG1.o
  have e2:=(h.block (N+1) (by omega)).trans HG2.o
  exact ⟨cr e1,cr e1,cr e2,cr e2,cr e2⟩)
 have HST:Hid (∀V V',Below (N+2) W V→Below V.heap.size V V'→Below (N+2) W V'):=hid (fun V V' h h'=>h.trans (h'.mono (by have:=h.size;have:=HWN.o;omega)))
 have HEND:Hid (∀V,Below (N+2) W V→Below w.heap.size w V):=hid (fun V h=>by rw [HN.o];exact HB.o.trans (h.mono (by omega)))
 have HR0:Hid (Below (N+2) W W):=hid (Below.refl _ _)
 go_upto_region 1 with fail
 refine Kit.wp_region_hplan (fun V=>V.cell? ⟨N,0,none⟩=some (.int .i64 (b:Int))∧V.cell? ⟨N,1,none⟩=some (.int .i64 (t:Int))∧V.cell? ⟨N+1,0,none⟩=some (.int .i64 idx)∧V.cell? ⟨N+1,1,none⟩=some (.slice a1 n1 k1)∧V.cell? ⟨N+1,2,none⟩=some (.slice a2 n2 k2)) [(true,0),(false,1),(true,2),(true,3),(true,4),(true,5),(true,6),(true,7),(true,8),(true,9),(true,10),(true,11),(true,12),(true,13),(true,14),(true,15),(true,16),(true,17),(true,18),(true,19),(true,20),(true,21),(true,23),(true,24),(false,22),(false,25),(true,26),(true,27),(true,28),(true,29),(true,30),(true,31),(true,32),(true,33),(true,34),(true,35),(true,36),(true,37),(false,38),(true,39),(true,40)] (by kernel_rfl) (by kernel_rfl) (by kernel_rfl) (by kernel_rfl) (HCE.o _ HR0.o.drew) ?_
 iterate 1 (refine Kit.hhd (h:= ?_))
 refine Kit.hplan_op (by rfl) (by rfl) fun K hK=> ?_
 go_simp
 go_at_call 67
 refine (HV.o _).mono ?_
 rintro e w2 ⟨rfl,h2⟩
 have H2:=hid (HST.o _ _ HR0.o.drew h2)
 clear h2
 refine hK _ _ (HCE.o _ H2.o) ?_
 clear hK K
 iterate 22 (refine Kit.hhd (h:= ?_))
 refine Kit.hsk (h:=?_)
 refine Kit.hsk (h:=?_)
 iterate 12 (refine Kit.hhd (h:= ?_))
 refine Kit.hsk (h:=?_)
 iterate 2 (refine Kit.hhd (h:= ?_))
 refine Kit.hdn (h:=?_)
 go_wp2_with fail
 go_ret
 exact ⟨by first | rfl | simp,HEND.o _ H2.o⟩
theorem fits_over (b t:Nat) (hsv:SV (b:Int) (t:Int)) (dg:ByteArray) (idx:Int) (a1:Option Addr) (n1 k1:Nat) (a2:Option Addr) (n2 k2:Nat) (hn1:n1<9223372036854775808) (hn2:n2<9223372036854775808) (ht:t≤8) (hd:dg.size=32) (h0:0≤idx) (hi:((2 ^ t:Nat):Int)≤idx) (w:World):
    Calls Tryz.prog 210 #[.agg #[.int .i64 (b:Int),.int .i64 (t:Int)],.string dg,.agg #[.int .i64 idx,.slice a1 n1 k1,.slice a2 n2 k2]] w fun e w'=>e= .returned (.bool false)∧Below w.heap.size w w':=by
 have HV:=hid (fun w=>refSchemeValid_any (b:Int) (t:Int) w)
 rw [decide_eq_true hsv] at HV
 have hdd:(((dg.size:Nat):Int)==32)=true:=by rw [hd];rfl
 have h0:0≤idx:=by omega
 obtain ⟨hshl,hP8⟩:=fit_pow (t:=t) ht
 obtain ⟨P,hP⟩:=ex_eq (2 ^ t)
 rw [hP] at hshl hP8 hi
 have hip: ¬idx<(P:Int):=by omega
 clear hi
 clear hsv
 go_enter Tryz.func210,Tryz.ntmps210
 go_upto_region 1 with fail
 refine wp_over (fun W=>Hid (W.heap[w.heap.size]? =some (.cells #[.int .i64 (b:Int),.int .i64 (t:Int)] 23 (0,0)))∧Hid (W.heap[w.heap.size+1]? =some (.cells #[.int .i64 idx,.slice a1 n1 k1,.slice a2 n2 k2] 45 (0,0)))∧Hid (Below w.heap.size w W)∧Hid (W.heap.size=w.heap.size+2)) ⟨?_,?_,?_,?_⟩ ?_
 ·exact (Below.heap_alloc _ _ _ (by simp)).trans (heap_alloc_new _ _)
 ·have h:=heap_alloc_new (w.alloc (.cells #[.int .i64 (b:Int),.int .i64 (t:Int)] 23)) (.cells #[.int .i64 idx,.slice a1 n1 k1,.slice a2 n2 k2] 45)
  rwa [World.size_alloc] at h
 ·exact ((Below.refl _ _).alloc (Nat.le_refl _) _).alloc (by simp) _
 ·show _=_
  simp
 rintro W ⟨HG1,HG2,HB,HWN⟩
 obtain ⟨N,hN⟩:=ex_eq w.heap.size
 rw [hN] at HG1 HG2 HB HWN ⊢
 have HN:=hid hN
 clear hN
 have HCE:Hid (∀V,Below (N+2) W V→V.cell? ⟨N,0,none⟩=some (.int .i64 (b:Int))∧V.cell? ⟨N,1,none⟩=some (.int .i64 (t:Int))∧V.cell? ⟨N+1,0,none⟩=some (.int .i64 idx)∧V.cell? ⟨N+1,1,none⟩=some (.slice a1 n1 k1)∧V.cell? ⟨N+1,2,none⟩=some (.slice a2 n2 k2)):=hid (fun V h=>by
  have e1:=(h.block N (by omega)).trans HG1.o
  have e2:=(h.block (N+1) (by omega)).trans HG2.o
  exact ⟨cr e1,cr e1,cr e2,cr e2,cr e2⟩)
 have HST:Hid (∀V V',Below (N+2) W V→Below V.heap.size V V'→Below (N+2) W V'):=hid (fun V V' h h'=>h.trans (h'.mono (by have:=h.size;have:=HWN.o;omega)))
 have HEND:Hid (∀V,Below (N+2) W V→Below w.heap.size w V):=hid (fun V h=>by rw [HN.o];exact HB.o.trans (h.mono (by omega)))
 have HR0:Hid (Below (N+2) W W):=hid (Below.refl _ _)
 go_upto_region 1 with fail
 refine Kit.wp_region_hplan (fun V=>V.cell? ⟨N,0,none⟩=some (.int .i64 (b:Int))∧V.cell? ⟨N,1,none⟩=some (.int .i64 (t:Int))∧V.cell? ⟨N+1,0,none⟩=some (.int .i64 idx)∧V.cell? ⟨N+1,1,none⟩=some (.slice a1 n1 k1)∧V.cell? ⟨N+1,2,none⟩=some (.slice a2 n2 k2)) [(true,0),(false,1),(true,2),(true,3),(true,4),(true,5),(true,6),(true,7),(true,8),(true,9),(true,10),(true,11),(true,12),(true,13),(true,14),(true,15),(true,16),(true,17),(true,18),(true,19),(true,20),(true,21),(true,23),(true,24),(false,22),(false,25),(true,26),(true,27),(true,28),(true,29),(true,30),(true,31),(true,32),(true,33),(true,34),(true,35),(true,36),(true,37),(false,38),(true,39),(true,40)] (by kernel_rfl) (by kernel_rfl) (by kernel_rfl) (by kernel_rfl) (HCE.o _ HR0.o.drew) ?_
 iterate 1 (refine Kit.hhd (h:= ?_))
 refine Kit.hplan_op (by rfl) (by rfl) fun K hK=> ?_
 go_simp
 go_at_call 67
 refine (HV.o _).mono ?_
 rintro e w2 ⟨rfl,h2⟩
 have H2:=hid (HST.o _ _ HR0.o.drew h2)
 clear h2
 refine hK _ _ (HCE.o _ H2.o) ?_
 clear hK K
 iterate 22 (refine Kit.hhd (h:= ?_))
 refine Kit.hsk (h:=?_)
 refine Kit.hsk (h:=?_)
 iterate 12 (refine Kit.hhd (h:= ?_))
 refine Kit.hsk (h:=?_)
 iterate 2 (refine Kit.hhd (h:= ?_))
 refine Kit.hdn (h:=?_)
 go_wp2_with fail
 go_ret
 exact ⟨by first | rfl | simp,HEND.o _ H2.o⟩
theorem fits_rest (b t:Nat) (hB:Bits b) (hb4:b≤4) (dg:ByteArray) (idx:Int) (a1:Option Addr) (n1 k1:Nat) (a2:Option Addr) (n2 k2:Nat) (hn1:n1<9223372036854775808) (hn2:n2<9223372036854775808) (ht:t≤8) (hd:dg.size=32) (h0:0≤idx) (hi:idx<((2 ^ t:Nat):Int)) (ps qs:List ByteArray) (hps:ps.length=n1) (hqs:qs.length=n2) (w:World) (hS1:StrsAt w a1 ps) (hS2:StrsAt w a2 qs):
    Calls Tryz.prog 210 #[.agg #[.int .i64 (b:Int),.int .i64 (t:Int)],.string dg,.agg #[.int .i64 idx,.slice a1 n1 k1,.slice a2 n2 k2]] w fun e w'=>e= .returned (.bool (decide (n1=count b 32∧ ∀s ∈ ps,s.size=32) && decide (n2=t) && decide (∀s ∈ qs,s.size=32)))∧Below w.heap.size w w':=by
 have hsv:SV (b:Int) (t:Int):=⟨by rcases hB with rfl | rfl | rfl | rfl<;> first | omega | simp,by omega,by omega⟩
 have HPT:=hid (fun w h=>refParts_any b 32 hB (by decide) (by decide) a1 k1 n1 ps hps hn1 w h)
 have HSU:=hid (fun w h=>refSums_any a2 k2 n2 qs hqs hn2 w h)
 have HS:Hid (∀V,Below w.heap.size w V→StrsAt V a1 ps∧StrsAt V a2 qs):=hid (fun V h=>⟨hS1.later h,hS2.later h⟩)
 have HV:=hid (fun w=>refSchemeValid_any (b:Int) (t:Int) w)
 rw [decide_eq_true hsv] at HV
 have hdd:(((dg.size:Nat):Int)==32)=true:=by rw [hd];rfl
 obtain ⟨hshl,hP8⟩:=fit_pow (t:=t) ht
 obtain ⟨P,hP⟩:=ex_eq (2 ^ t)
 rw [hP] at hshl hP8 hi
 have hip:idx<(P:Int):=hi
 have hqt:((n2:Int)==(t:Int))=decide (n2=t):=by
  rw [Bool.eq_iff_iff,beq_iff_eq,decide_eq_true_eq]
  omega
 obtain ⟨D2,hD2⟩:=ex_eq (decide (n1=count b 32∧ ∀s ∈ ps,s.size=32))
 obtain ⟨D3,hD3⟩:=ex_eq (decide (n2=t))
 obtain ⟨D4,hD4⟩:=ex_eq (decide (∀s ∈ qs,s.size=32))
 rw [hD2] at HPT
 rw [hD3] at hqt
 rw [hD4] at HSU
 rw [hD2,hD3,hD4]
 clear hsv hP hi hD2 hD3 hD4 hB hps hqs hS1 hS2 hd hn1 hn2
 go_enter Tryz.func210,Tryz.ntmps210
 go_upto_region 1 with fail
 refine wp_over (fun W=>Hid (W.heap[w.heap.size]? =some (.cells #[.int .i64 (b:Int),.int .i64 (t:Int)] 23 (0,0)))∧Hid (W.heap[w.heap.size+1]? =some (.cells #[.int .i64 idx,.slice a1 n1 k1,.slice a2 n2 k2] 45 (0,0)))∧Hid (Below w.heap.size w W)∧Hid (W.heap.size=w.heap.size+2)) ⟨?_,?_,?_,?_⟩ ?_
 ·exact (Below.heap_alloc _ _ _ (by simp)).trans (heap_alloc_new _ _)
 ·have h:=heap_alloc_new (w.alloc (.cells #[.int .i64 (b:Int),.int .i64 (t:Int)] 23)) (.cells #[.int .i64 idx,.slice a1 n1 k1,.slice a2 n2 k2] 45)
  rwa [World.size_alloc] at h
 ·exact ((Below.refl _ _).alloc (Nat.le_refl _) _).alloc (by simp) _
 ·show _=_
  simp
 rintro W ⟨HG1,HG2,HB,HWN⟩
 obtain ⟨N,hN⟩:=ex_eq w.heap.size
 rw [hN] at HG1 HG2 HB HWN ⊢
 have HN:=hid hN
 clear hN
 have HCE:Hid (∀V,Below (N+2) W V→V.cell? ⟨N,0,none⟩=some (.int .i64 (b:Int))∧V.cell? ⟨N,1,none⟩=some (.int .i64 (t:Int))∧V.cell? ⟨N+1,0,none⟩=some (.int .i64 idx)∧V.cell? ⟨N+1,1,none⟩=some (.slice a1 n1 k1)∧V.cell? ⟨N+1,2,none⟩=some (.slice a2 n2 k2)):=hid (fun V h=>by
  have e1:=(h.block N (by omega)).trans HG1.o
  have e2:=(h.block (N+1) (by omega)).trans HG2.o
  exact ⟨cr e1,cr e1,cr e2,cr e2,cr e2⟩)
 have HST:Hid (∀V V',Below (N+2) W V→Below V.heap.size V V'→Below (N+2) W V'):=hid (fun V V' h h'=>h.trans (h'.mono (by have:=h.size;have:=HWN.o;omega)))
 have HEND:Hid (∀V,Below (N+2) W V→Below w.heap.size w V):=hid (fun V h=>by rw [HN.o];exact HB.o.trans (h.mono (by omega)))
 have HR0:Hid (Below (N+2) W W):=hid (Below.refl _ _)
 cases D2
 ·go_upto_region 1 with fail
  refine Kit.wp_region_hplan (fun V=>V.cell? ⟨N,0,none⟩=some (.int .i64 (b:Int))∧V.cell? ⟨N,1,none⟩=some (.int .i64 (t:Int))∧V.cell? ⟨N+1,0,none⟩=some (.int .i64 idx)∧V.cell? ⟨N+1,1,none⟩=some (.slice a1 n1 k1)∧V.cell? ⟨N+1,2,none⟩=some (.slice a2 n2 k2)) [(true,0),(false,1),(true,2),(true,3),(true,4),(true,5),(true,6),(true,7),(true,8),(true,9),(true,10),(true,11),(true,12),(true,13),(true,14),(true,15),(true,16),(true,17),(true,18),(true,19),(true,20),(true,21),(true,23),(true,24),(false,22),(false,25),(true,26),(true,27),(true,28),(true,29),(true,30),(true,31),(true,32),(true,33),(true,34),(true,35),(true,36),(true,37),(false,38),(true,39),(true,40)] (by kernel_rfl) (by kernel_rfl) (by kernel_rfl) (by kernel_rfl) (HCE.o _ HR0.o.drew) ?_
  iterate 1 (refine Kit.hhd (h:= ?_))
  refine Kit.hplan_op (by rfl) (by rfl) fun K hK=> ?_
  go_simp
  go_at_call 67
  refine (HV.o _).mono ?_
  rintro e w2 ⟨rfl,h2⟩
  have H2:=hid (HST.o _ _ HR0.o.drew h2)
  clear h2
  refine hK _ _ (HCE.o _ H2.o) ?_
  clear hK K
  iterate 22 (refine Kit.hhd (h:= ?_))
  refine Kit.hplan_op (by rfl) (by rfl) fun K hK=> ?_
  go_simp
  go_at_call 195
  refine (refParams_any (b:Int) (t:Int) _).mono ?_
  rintro e w3 ⟨rfl,h3⟩
  have H3:=hid (HST.o _ _ H2.o h3)
  clear h3
  refine hK _ _ (HCE.o _ H3.o) ?_
  clear hK K
  refine Kit.hplan_op (by rfl) (by rfl) fun K hK=> ?_
  go_simp
  go_at_call 265
  refine (HPT.o _ (HS.o _ (HEND.o _ H3.o)).1).mono ?_
  rintro e w4 ⟨rfl,h4⟩
  have H4:=hid (HST.o _ _ H3.o h4)
  clear h4
  refine hK _ _ (HCE.o _ H4.o) ?_
  clear hK K
  iterate 12 (refine Kit.hhd (h:= ?_))
  refine Kit.hsk (h:=?_)
  iterate 2 (refine Kit.hhd (h:= ?_))
  refine Kit.hdn (h:=?_)
  go_wp2_with fail
  go_ret
  exact ⟨by first | rfl | simp,HEND.o _ H4.o⟩
 cases D3
 ·go_upto_region 1 with fail
  refine Kit.wp_region_hplan (fun V=>V.cell? ⟨N,0,none⟩=some (.int .i64 (b:Int))∧V.cell? ⟨N,1,none⟩=some (.int .i64 (t:Int))∧V.cell? ⟨N+1,0,none⟩=some (.int .i64 idx)∧V.cell? ⟨N+1,1,none⟩=some (.slice a1 n1 k1)∧V.cell? ⟨N+1,2,none⟩=some (.slice a2 n2 k2)) [(true,0),(false,1),(true,2),(true,3),(true,4),(true,5),(true,6),(true,7),(true,8),(true,9),(true,10),(true,11),(true,12),(true,13),(true,14),(true,15),(true,16),(true,17),(true,18),(true,19),(true,20),(true,21),(true,23),(true,24),(false,22),(false,25),(true,26),(true,27),(true,28),(true,29),(true,30),(true,31),(true,32),(true,33),(true,34),(true,35),(true,36),(true,37),(false,38),(true,39),(true,40)] (by kernel_rfl) (by kernel_rfl) (by kernel_rfl) (by kernel_rfl) (HCE.o _ HR0.o.drew) ?_
  iterate 1 (refine Kit.hhd (h:= ?_))
  refine Kit.hplan_op (by rfl) (by rfl) fun K hK=> ?_
  go_simp
  go_at_call 67
  refine (HV.o _).mono ?_
  rintro e w2 ⟨rfl,h2⟩
  have H2:=hid (HST.o _ _ HR0.o.drew h2)
  clear h2
  refine hK _ _ (HCE.o _ H2.o) ?_
  clear hK K
  iterate 22 (refine Kit.hhd (h:= ?_))
  refine Kit.hplan_op (by rfl) (by rfl) fun K hK=> ?_
  go_simp
  go_at_call 195
  refine (refParams_any (b:Int) (t:Int) _).mono ?_
  rintro e w3 ⟨rfl,h3⟩
  have H3:=hid (HST.o _ _ H2.o h3)
  clear h3
  refine hK _ _ (HCE.o _ H3.o) ?_
  clear hK K
  refine Kit.hplan_op (by rfl) (by rfl) fun K hK=> ?_
  go_simp
  go_at_call 265
  refine (HPT.o _ (HS.o _ (HEND.o _ H3.o)).1).mono ?_
  rintro e w4 ⟨rfl,h4⟩
  have H4:=hid (HST.o _ _ H3.o h4)
  clear h4
  refine hK _ _ (HCE.o _ H4.o) ?_
  clear hK K
  iterate 12 (refine Kit.hhd (h:= ?_))
  refine Kit.hsk (h:=?_)
  iterate 2 (refine Kit.hhd (h:= ?_))
  refine Kit.hdn (h:=?_)
  go_wp2_with fail
  go_ret
  exact ⟨by first | rfl | simp,HEND.o _ H4.o⟩
 ·go_upto_region 1 with fail
  refine Kit.wp_region_hplan (fun V=>V.cell? ⟨N,0,none⟩=some (.int .i64 (b:Int))∧V.cell? ⟨N,1,none⟩=some (.int .i64 (t:Int))∧V.cell? ⟨N+1,0,none⟩=some (.int .i64 idx)∧V.cell? ⟨N+1,1,none⟩=some (.slice a1 n1 k1)∧V.cell? ⟨N+1,2,none⟩=some (.slice a2 n2 k2)) [(true,0),(false,1),(true,2),(true,3),(true,4),(true,5),(true,6),(true,7),(true,8),(true,9),(true,10),(true,11),(true,12),(true,13),(true,14),(true,15),(true,16),(true,17),(true,18),(true,19),(true,20),(true,21),(true,23),(true,24),(false,22),(false,25),(true,26),(true,27),(true,28),(true,29),(true,30),(true,31),(true,32),(true,33),(true,34),(true,35),(true,36),(true,37),(false,38),(true,39),(true,40)] (by kernel_rfl) (by kernel_rfl) (by kernel_rfl) (by kernel_rfl) (HCE.o _ HR0.o.drew) ?_
  iterate 1 (refine Kit.hhd (h:= ?_))
  refine Kit.hplan_op (by rfl) (by rfl) fun K hK=> ?_
  go_simp
  go_at_call 67
  refine (HV.o _).mono ?_
  rintro e w2 ⟨rfl,h2⟩
  have H2:=hid (HST.o _ _ HR0.o.drew h2)
  clear h2
  refine hK _ _ (HCE.o _ H2.o) ?_
  clear hK K
  iterate 22 (refine Kit.hhd (h:= ?_))
  refine Kit.hplan_op (by rfl) (by rfl) fun K hK=> ?_
  go_simp
  go_at_call 195
  refine (refParams_any (b:Int) (t:Int) _).mono ?_
  rintro e w3 ⟨rfl,h3⟩
  have H3:=hid (HST.o _ _ H2.o h3)
  clear h3
  refine hK _ _ (HCE.o _ H3.o) ?_
  clear hK K
  refine Kit.hplan_op (by rfl) (by rfl) fun K hK=> ?_
  go_simp
  go_at_call 265
  refine (HPT.o _ (HS.o _ (HEND.o _ H3.o)).1).mono ?_
  rintro e w4 ⟨rfl,h4⟩
  have H4:=hid (HST.o _ _ H3.o h4)
  clear h4
  refine hK _ _ (HCE.o _ H4.o) ?_
  clear hK K
  iterate 12 (refine Kit.hhd (h:= ?_))
  refine Kit.hplan_op (by rfl) (by rfl) fun K hK=> ?_
  go_simp
  go_at_call 208
  refine (HSU.o _ (HS.o _ (HEND.o _ H4.o)).2).mono ?_
  rintro e w5 ⟨rfl,h5⟩
  have H5:=hid (HST.o _ _ H4.o h5)
  clear h5
  refine hK _ _ (HCE.o _ H5.o) ?_
  clear hK K
  iterate 2 (refine Kit.hhd (h:= ?_))
  refine Kit.hdn (h:=?_)
  go_wp2_with fail
  go_ret
  exact ⟨by first | rfl | simp,HEND.o _ H5.o⟩
theorem refFits_any (B H:Int) (dg:ByteArray) (idx:Int) (x:Value) (ps qs:List ByteArray) (hl1:ps.length<9223372036854775808) (hl2:qs.length<9223372036854775808) (w:World) (hx:SigAt w x idx ps qs):
    Calls Tryz.prog 210 #[.agg #[.int .i64 B,.int .i64 H],.string dg,x] w fun e w'=>e= .returned (.bool (decide (SigFits B H (nb dg) idx (ps.map nb) (qs.map nb))))∧Below w.heap.size w w':=by
 obtain ⟨a1,n1,k1,a2,n2,k2,rfl,hps,hS1,hqs,hS2⟩:=hx
 have hn1:n1<9223372036854775808:=by omega
 have hn2:n2<9223372036854775808:=by omega
 have bad: ∀(hf: ¬SigFits B H (nb dg) idx (ps.map nb) (qs.map nb)),decide (SigFits B H (nb dg) idx (ps.map nb) (qs.map nb))=false:=fun hf=>decide_eq_false hf
 by_cases hv:SV B H
 ·obtain ⟨b,t,rfl,rfl,hB,hb4,ht⟩:=sv_of hv
  by_cases hd:dg.size=32
  ·by_cases h0:0≤idx
   ·have hpw:(2:Int) ^ ((t:Int)).toNat=((2 ^ t:Nat):Int):=by rw [Int.toNat_natCast];exact (Int.natCast_pow 2 t).symm
    by_cases hi:idx<((2 ^ t:Nat):Int)
    ·refine (fits_rest b t hB hb4 dg idx a1 n1 k1 a2 n2 k2 hn1 hn2 ht hd h0 hi ps qs hps hqs w hS1 hS2).mono ?_
     rintro e w' ⟨he,hb⟩
     refine ⟨he.trans ?_,hb⟩
     congr 2
     rw [Bool.eq_iff_iff,Bool.and_eq_true,Bool.and_eq_true,decide_eq_true_eq,decide_eq_true_eq,decide_eq_true_eq,decide_eq_true_eq]
     constructor
     ·rintro ⟨⟨⟨h1,h2⟩,h3⟩,h4⟩
      obtain ⟨e1,e2,e3⟩:=shape_nb (b:=b) (n1:=n1) ⟨h4,h1,h2⟩ hps
      exact ⟨hv,by rw [nb_length];exact hd,h0,by rw [hpw];exact hi,by rw [List.length_map];omega,e1,by rw [Int.toNat_natCast];exact e2,e3⟩
     ·rintro ⟨_,_,_,_,h1,h2,h3,h4⟩
      rw [Int.toNat_natCast] at h3
      have hs:=nb_shape h2 h3 h4 hps
      rw [List.length_map] at h1
      exact ⟨⟨hs.2,by omega⟩,hs.1⟩
    ·rw [bad (fun h=>hi (by rw [← hpw];exact h.2.2.2.1))]
     exact fits_over b t hv dg idx a1 n1 k1 a2 n2 k2 hn1 hn2 ht hd h0 (by omega) w
   ·rw [bad (fun h=>h0 h.2.2.1)]
    exact fits_neg b t hv dg idx a1 n1 k1 a2 n2 k2 hn1 hn2 hd h0 w
  ·rw [bad (fun h=>hd (by rw [← nb_length];exact h.2.1))]
   exact fits_size b t hv dg idx a1 n1 k1 a2 n2 k2 hn1 hn2 hd w
 ·rw [bad (fun h=>hv h.1)]
  exact fits_scheme B H dg idx a1 n1 k1 a2 n2 k2 hn1 hn2 hv w
theorem shape_nb2 {ps qs:List ByteArray} (h1: ∀q ∈ qs.map nb,q.length=32) (h3: ∀p ∈ ps.map nb,p.length=32):(∀q ∈ qs,q.size=32)∧(∀p ∈ ps,p.size=32):=
 ⟨fun q hq=>by rw [← nb_length];exact h1 _ (List.mem_map_of_mem hq),fun p hp=>by rw [← nb_length];exact h3 _ (List.mem_map_of_mem hp)⟩
theorem refSigRoot_bad (B H:Int) (dg:ByteArray) (idx:Int) (a1:Option Addr) (n1 k1:Nat) (a2:Option Addr) (n2 k2:Nat) (ps qs:List ByteArray) (hl1:ps.length<9223372036854775808) (hl2:qs.length<9223372036854775808) (hf: ¬SigFits B H (nb dg) idx (ps.map nb) (qs.map nb)) (w:World) (hx:SigAt w (.agg #[.int .i64 idx,.slice a1 n1 k1,.slice a2 n2 k2]) idx ps qs):
    Calls Tryz.prog 119 #[.agg #[.int .i64 B,.int .i64 H],.string dg,.agg #[.int .i64 idx,.slice a1 n1 k1,.slice a2 n2 k2]] w fun e w'=>e= .returned (.tuple #[.string ByteArray.empty,.int .i64 1])∧Below w.heap.size w w':=by
 have HFT:=hid (fun w hx=>refFits_any B H dg idx (.agg #[.int .i64 idx,.slice a1 n1 k1,.slice a2 n2 k2]) ps qs hl1 hl2 w hx)
 rw [decide_eq_false hf] at HFT
 have HX:Hid (∀V,Below w.heap.size w V→SigAt V (.agg #[.int .i64 idx,.slice a1 n1 k1,.slice a2 n2 k2]) idx ps qs):=hid (fun V h=>hx.later h)
 clear hf hx
 go_enter Tryz.func119,Tryz.ntmps119
 go_upto_region 1 with fail
 refine wp_over (fun W=>Hid (W.heap[w.heap.size]? =some (.cells #[.int .i64 (B),.int .i64 (H)] 23 (0,0)))∧Hid (W.heap[w.heap.size+1]? =some (.cells #[.int .i64 idx,.slice a1 n1 k1,.slice a2 n2 k2] 45 (0,0)))∧Hid (Below w.heap.size w W)∧Hid (W.heap.size=w.heap.size+2)) ⟨?_,?_,?_,?_⟩ ?_
 ·exact (Below.heap_alloc _ _ _ (by simp)).trans (heap_alloc_new _ _)
 ·have h:=heap_alloc_new (w.alloc (.cells #[.int .i64 (B),.int .i64 (H)] 23)) (.cells #[.int .i64 idx,.slice a1 n1 k1,.slice a2 n2 k2] 45)
  rwa [World.size_alloc] at h
 ·exact ((Below.refl _ _).alloc (Nat.le_refl _) _).alloc (by simp) _
 ·show _=_
  simp
 rintro W ⟨HG1,HG2,HB,HWN⟩
 obtain ⟨N,hN⟩:=ex_eq w.heap.size
 rw [hN] at HG1 HG2 HB HWN ⊢
 have HN:=hid hN
 clear hN
 have HCE:Hid (∀V,Below (N+2) W V→V.cell? ⟨N,0,none⟩=some (.int .i64 (B))∧V.cell? ⟨N,1,none⟩=some (.int .i64 (H))∧V.cell? ⟨N+1,0,none⟩=some (.int .i64 idx)∧V.cell? ⟨N+1,1,none⟩=some (.slice a1 n1 k1)∧V.cell? ⟨N+1,2,none⟩=some (.slice a2 n2 k2)):=hid (fun V h=>by
  have e1:=(h.block N (by omega)).trans HG1.o
  have e2:=(h.block (N+1) (by omega)).trans HG2.o
  exact ⟨cr e1,cr e1,cr e2,cr e2,cr e2⟩)
 have HST:Hid (∀V V',Below (N+2) W V→Below V.heap.size V V'→Below (N+2) W V'):=hid (fun V V' h h'=>h.trans (h'.mono (by have:=h.size;have:=HWN.o;omega)))
 have HEND:Hid (∀V,Below (N+2) W V→Below w.heap.size w V):=hid (fun V h=>by rw [HN.o];exact HB.o.trans (h.mono (by omega)))
 have HR0:Hid (Below (N+2) W W):=hid (Below.refl _ _)
 obtain ⟨f0,f1,f2,f3,f4⟩:=HCE.o _ HR0.o
 go_upto_region 2 with (first
  | (go_at_call 210
     (refine (HFT.o _ (HX.o _ (HEND.o _ HR0.o))).mono ?_)
     rintro e w2 ⟨rfl,h2⟩
     have H2:=hid (HST.o _ _ HR0.o h2)
     clear h2))
 go_wp2_with fail
 go_ret2
 exact ⟨by first | rfl | simp,HEND.o _ H2.o⟩
theorem refSigRoot_ok (b t i:Nat) (hB:Bits b) (hb4:b≤4) (ht:t≤8) (dg:ByteArray) (a1:Option Addr) (n1 k1:Nat) (a2:Option Addr) (n2 k2:Nat) (ps qs:List ByteArray) (hl1:ps.length<9223372036854775808) (hl2:qs.length<9223372036854775808) (hf:SigFits (b:Int) (t:Int) (nb dg) (i:Int) (ps.map nb) (qs.map nb)) (hps:ps.length=n1) (hqs:qs.length=n2) (w:World) (hS1:StrsAt w a1 ps) (hS2:StrsAt w a2 qs):
    Calls Tryz.prog 119 #[.agg #[.int .i64 (b:Int),.int .i64 (t:Int)],.string dg,.agg #[.int .i64 (i:Int),.slice a1 n1 k1,.slice a2 n2 k2]] w fun e w'=> ∃u:ByteArray,e= .returned (.tuple #[.string u,.int .i64 0])∧nb u=sigRoot b (nb dg) i (ps.map nb) (qs.map nb)∧u.size=32∧Below w.heap.size w w':=by
 have HFT:=hid (fun w hx=>refFits_any (b:Int) (t:Int) dg (i:Int) (.agg #[.int .i64 (i:Int),.slice a1 n1 k1,.slice a2 n2 k2]) ps qs hl1 hl2 w hx)
 rw [decide_eq_true hf] at HFT
 obtain ⟨_,hd,_,hi,hqn,hq32,hpn,hp32⟩:=hf
 have hd:dg.size=32:=by rw [← nb_length];exact hd
 have hP8:2 ^ t≤256:=Nat.pow_le_pow_right (n:=2) (by decide) ht
 have hi9:i≤1000:=by
  rw [Int.toNat_natCast,show (2:Int) ^ t=((2 ^ t:Nat):Int) from (Int.natCast_pow 2 t).symm] at hi
  omega
 have hn2:n2<1000:=by rw [List.length_map] at hqn;omega
 rw [Int.toNat_natCast,List.length_map] at hpn
 have hS:=shape_nb2 hq32 hp32
 have HRC:=hid (fun w hS1=>by
  have h:=refRecover_ok b dg hB (by rw [hd];decide) (by rw [hd];decide) a1 k1 n1 ps hps (by rw [hd,← hps];exact hpn) hS.2 w hS1
  rw [hd] at h
  exact h)
 have HCB:=hid (fun (l:ByteArray) hl w h=>refClimb_ok l hl i hi9 a2 k2 n2 qs hqs hn2 hS.1 w h (Mrk.climb (nb l) i (qs.map nb)) rfl)
 have HX:Hid (∀V,Below w.heap.size w V→SigAt V (.agg #[.int .i64 (i:Int),.slice a1 n1 k1,.slice a2 n2 k2]) (i:Int) ps qs):=hid (fun V h=>⟨a1,n1,k1,a2,n2,k2,rfl,hps,hS1.later h,hqs,hS2.later h⟩)
 have HSS:Hid (∀V,Below w.heap.size w V→StrsAt V a1 ps∧StrsAt V a2 qs):=hid (fun V h=>⟨hS1.later h,hS2.later h⟩)
 clear hd hP8 hi hqn hq32 hpn hp32 hS hS1 hS2 hps hqs hi9 hn2 hB
 go_enter Tryz.func119,Tryz.ntmps119
 go_upto_region 1 with fail
 refine wp_over (fun W=>Hid (W.heap[w.heap.size]? =some (.cells #[.int .i64 (b:Int),.int .i64 (t:Int)] 23 (0,0)))∧Hid (W.heap[w.heap.size+1]? =some (.cells #[.int .i64 (i:Int),.slice a1 n1 k1,.slice a2 n2 k2] 45 (0,0)))∧Hid (Below w.heap.size w W)∧Hid (W.heap.size=w.heap.size+2)) ⟨?_,?_,?_,?_⟩ ?_
 ·exact (Below.heap_alloc _ _ _ (by simp)).trans (heap_alloc_new _ _)
 ·have h:=heap_alloc_new (w.alloc (.cells #[.int .i64 (b:Int),.int .i64 (t:Int)] 23)) (.cells #[.int .i64 (i:Int),.slice a1 n1 k1,.slice a2 n2 k2] 45)
  rwa [World.size_alloc] at h
 ·exact ((Below.refl _ _).alloc (Nat.le_refl _) _).alloc (by simp) _
 ·show _=_
  simp
 rintro W ⟨HG1,HG2,HB,HWN⟩
 obtain ⟨N,hN⟩:=ex_eq w.heap.size
 rw [hN] at HG1 HG2 HB HWN ⊢
 have HN:=hid hN
 clear hN
 have HCE:Hid (∀V,Below (N+2) W V→V.cell? ⟨N,0,none⟩=some (.int .i64 (b:Int))∧V.cell? ⟨N,1,none⟩=some (.int .i64 (t:Int))∧V.cell? ⟨N+1,0,none⟩=some (.int .i64 (i:Int))∧V.cell? ⟨N+1,1,none⟩=some (.slice a1 n1 k1)∧V.cell? ⟨N+1,2,none⟩=some (.slice a2 n2 k2)):=hid (fun V h=>by
  have e1:=(h.block N (by omega)).trans HG1.o
  have e2:=(h.block (N+1) (by omega)).trans HG2.o
  exact ⟨cr e1,cr e1,cr e2,cr e2,cr e2⟩)
 have HST:Hid (∀V V',Below (N+2) W V→Below V.heap.size V V'→Below (N+2) W V'):=hid (fun V V' h h'=>h.trans (h'.mono (by have:=h.size;have:=HWN.o;omega)))
 have HEND:Hid (∀V,Below (N+2) W V→Below w.heap.size w V):=hid (fun V h=>by rw [HN.o];exact HB.o.trans (h.mono (by omega)))
 have HR0:Hid (Below (N+2) W W):=hid (Below.refl _ _)
 obtain ⟨f0,f1,f2,f3,f4⟩:=HCE.o _ HR0.o
 go_upto_region 3 with (first
  | (go_at_call 210
     (refine (HFT.o _ (HX.o _ (HEND.o _ HR0.o))).mono ?_)
     rintro e w2 ⟨rfl,h2⟩
     have H2:=hid (HST.o _ _ HR0.o h2)
     clear h2))
 clear f0 f1 f2 f3 f4
 refine Kit.wp_region_hplan (fun V=>V.cell? ⟨N,0,none⟩=some (.int .i64 (b:Int))∧V.cell? ⟨N,1,none⟩=some (.int .i64 (t:Int))∧V.cell? ⟨N+1,0,none⟩=some (.int .i64 (i:Int))∧V.cell? ⟨N+1,1,none⟩=some (.slice a1 n1 k1)∧V.cell? ⟨N+1,2,none⟩=some (.slice a2 n2 k2)) [(true,0),(true,2),(true,3),(true,4),(true,8),(true,9),(true,10),(true,11),(false,1),(false,5),(false,6),(false,7),(false,12),(true,13),(true,14)] (by kernel_rfl) (by kernel_rfl) (by kernel_rfl) (by kernel_rfl) (HCE.o _ H2.o.drew) ?_
 iterate 8 (refine Kit.hhd (h:= ?_))
 refine Kit.hplan_op (by rfl) (by rfl) fun K hK=> ?_
 go_simp
 go_at_call 195
 refine (refParams_any (b:Int) (t:Int) _).mono ?_
 rintro e w3 ⟨rfl,h3⟩
 have H3:=hid (HST.o _ _ H2.o.drew h3)
 clear h3
 refine hK _ _ (HCE.o _ H3.o) ?_
 clear hK K
 refine Kit.hplan_op (by rfl) (by rfl) fun K hK=> ?_
 go_simp
 go_at_call 212
 refine (HRC.o _ (HSS.o _ (HEND.o _ H3.o)).1).mono ?_
 rintro e w4 ⟨u4,rfl,hu4,h4⟩
 have HU4:=hid hu4
 have H4:=hid (HST.o _ _ H3.o h4)
 clear hu4 h4
 refine hK _ _ (HCE.o _ H4.o) ?_
 clear hK K
 have hz4:u4.size=32:=by rw [← nb_length,HU4.o];exact Sha.sum_length _
 obtain ⟨cp5,w5,hcv5,hle5,hB5,h5⟩:=str_at w4 u4 (by rw [hz4];decide) hz4
 have HB5:=hid hB5
 have HZ4:=hid hz4
 have H5:=hid (HST.o _ _ H4.o h5)
 clear hB5 h5 hle5 hz4
 refine Kit.hplan_op (by rfl) (by rfl) fun K hK=> ?_
 go_simp
 refine hK _ _ (HCE.o _ H5.o) ?_
 clear hK K hcv5
 refine Kit.hplan_op (by rfl) (by rfl) fun K hK=> ?_
 go_simp
 go_at_call 116
 refine (refLeaf_l (some ⟨w4.heap.size,0,none⟩) cp5 (nb u4) 32 (by rw [nb_length];exact HZ4.o) (fun e=>by cases e) (by omega) w5 HB5.o (Mrk.leaf (recover b (One.digits b (nb dg)) (ps.map nb))) (by rw [HU4.o])).mono ?_
 rintro e w6 ⟨u6,rfl,hu6,hz6,h6⟩
 have HU6:=hid hu6
 have HZ6:=hid hz6
 have H6:=hid (HST.o _ _ H5.o h6)
 clear hu6 hz6 h6
 refine hK _ _ (HCE.o _ H6.o) ?_
 clear hK K
 refine Kit.hplan_op (by rfl) (by rfl) fun K hK=> ?_
 go_simp
 go_at_call 211
 refine (HCB.o u6 HZ6.o _ (HSS.o _ (HEND.o _ H6.o)).2).mono ?_
 rintro e w7 ⟨u7,rfl,hu7,hz7,h7⟩
 have HU7:=hid hu7
 have HZ7:=hid hz7
 have H7:=hid (HST.o _ _ H6.o h7)
 clear hu7 hz7 h7
 refine hK _ _ (HCE.o _ H7.o) ?_
 clear hK K
 iterate 2 (refine Kit.hhd (h:= ?_))
 refine Kit.hdn (h:=?_)
 go_wp2_with fail
 go_ret2
 exact ⟨u7,rfl,by rw [HU7.o,HU6.o];rfl,HZ7.o,HEND.o _ H7.o⟩
theorem refSigRoot_any (B S:Int) (dg:ByteArray) (idx:Int) (x:Value) (ps qs:List ByteArray) (hl1:ps.length<9223372036854775808) (hl2:qs.length<9223372036854775808) (w:World) (hx:SigAt w x idx ps qs):
    Calls Tryz.prog 119 #[.agg #[.int .i64 B,.int .i64 S],.string dg,x] w fun e w'=>Below w.heap.size w w'∧
     ((SigFits B S (nb dg) idx (ps.map nb) (qs.map nb)∧ ∃u:ByteArray,e= .returned (.tuple #[.string u,.int .i64 0])∧nb u=sigRoot B.toNat (nb dg) idx.toNat (ps.map nb) (qs.map nb)∧u.size=32)∨
      (¬SigFits B S (nb dg) idx (ps.map nb) (qs.map nb)∧e= .returned (.tuple #[.string ByteArray.empty,.int .i64 1]))):=by
 have hx0:=hx
 obtain ⟨a1,n1,k1,a2,n2,k2,rfl,hps,hS1,hqs,hS2⟩:=hx
 by_cases hf:SigFits B S (nb dg) idx (ps.map nb) (qs.map nb)
 ·obtain ⟨b,t,rfl,rfl,hB,hb4,ht⟩:=sv_of hf.1
  obtain ⟨i,rfl⟩: ∃i:Nat,idx=(i:Int):=⟨idx.toNat,by have:=hf.2.2.1;omega⟩
  refine (refSigRoot_ok b t i hB hb4 ht dg a1 n1 k1 a2 n2 k2 ps qs hl1 hl2 hf hps hqs w hS1 hS2).mono ?_
  rintro e w' ⟨u,he,hu,hz,hb⟩
  exact ⟨hb,.inl ⟨hf,u,he,by rw [Int.toNat_natCast,Int.toNat_natCast];exact hu,hz⟩⟩
 ·refine (refSigRoot_bad B S dg idx a1 n1 k1 a2 n2 k2 ps qs hl1 hl2 hf w hx0).mono ?_
  rintro e w' ⟨he,hb⟩
  exact ⟨hb,.inr ⟨hf,he⟩⟩
theorem refNode_g (l r:ByteArray) (hl:l.size≤1000) (hr:r.size≤1000) (w:World):
    Calls Tryz.prog 192 #[.string l,.string r] w fun e w'=> ∃u:ByteArray,e= .returned (.string u)∧nb u=Mrk.node (nb l) (nb r)∧u.size=32∧Below w.heap.size w w':=by
 obtain ⟨T,hT⟩:=ex_eq (Mrk.node (nb l) (nb r))
 rw [hT]
 have HTL:Hid (T.length=32):=hid (by rw [← hT];exact Mrk.node_len _ _)
 have HT:Hid (Sha.sum (catB [{ data:= #[1] },l,r])=T):=hid (by rw [← hT,catB_three,one_lit];rfl)
 have HSZ:Hid (∀s ∈ [({ data:= #[1] }:ByteArray),l,r],s.size≤1000):=hid (fun s hs=>by
  simp only [List.mem_cons,List.not_mem_nil,or_false] at hs
  rcases hs with rfl | rfl | rfl
  ·decide
  ·omega
  ·omega)
 clear hl hr hT
 go_enter Tryz.func192,Tryz.ntmps192
 have HB1:Hid (Below w.heap.size w (w.alloc (.cells #[.string { data:= #[1] },.string l,.string r] 9))):=hid ((Below.refl _ _).alloc (Nat.le_refl _) _)
 have HS1:Hid (StrsAt (w.alloc (.cells #[.string { data:= #[1] },.string l,.string r] 9)) (some ⟨w.heap.size,0,none⟩) [{ data:= #[1] },l,r]):=hid (strs_of_row (t:=9) (heap_alloc_new w _))
 go_wp2_with (first
  | (go_at_call 250
     (refine (refJoin_l (some ⟨w.heap.size,0,none⟩) 3 3 [{ data:= #[1] },l,r] rfl (by decide) HSZ.o _ HS1.o T HT.o).mono ?_)
     rintro e w2 ⟨u,rfl,hu,h2⟩
     have HU:=hid hu
     have H2:=hid h2
     clear hu h2))
 go_ret
 exact ⟨u,rfl,HU.o,by rw [← nb_length,HU.o];exact HTL.o,HB1.o.trans (H2.o.mono HB1.o.size)⟩
theorem refUp_any (l:ByteArray) (hl:l.size=32): ∀(n:Nat),1≤n→n≤256→ ∀(i:Nat),i<n→ ∀(a:Option Addr) (cap L:Nat) (ss:List ByteArray),ss.length=L→L≤cap∧L≤1000000→(∀s ∈ ss,s.size=32)→ ∀(w:World),StrsAt w a ss→Laid w→
    Calls Tryz.prog 209 #[.string l,.int .i64 (i:Int),.int .i64 (n:Int),.slice a L cap] w fun e w'=> ∃(u:ByteArray) (ok:Bool),e= .returned (.tuple #[.string u,.bool ok])∧Hid (ClimbOut l i n ss u ok)∧Below w.heap.size w w':=by
 intro n
 induction n using Nat.strongRecOn with
 | ind n ih=>
   intro hn1 hn9 i hi a cap L ss hLe hcap h32 w hS hLd
   by_cases h2:2≤n
   rotate_left
   ·obtain rfl:n=1:=by omega
    by_cases hL0:L=0
    ·subst hL0
     have HO:Hid (ClimbOut l i 1 ss l true):=hid (by have h:=ClimbOut.one (i:=i) (ss:=ss) hl;rwa [decide_eq_true hLe] at h)
     clear ih h32 hS hLd hLe hcap h2 hi
     go_enter Tryz.func209,Tryz.ntmps209
     go_wp2_with fail
     go_ret2
     exact ⟨l,true,rfl,HO,Below.refl _ _⟩
    ·have HO:Hid (ClimbOut l i 1 ss l false):=hid (by have h:=ClimbOut.one (i:=i) (ss:=ss) hl;rwa [decide_eq_false (by rw [hLe];exact hL0)] at h)
     have hLi:((L:Int)==0)=false:=by rw [beq_eq_false_iff_ne];omega
     clear ih h32 hS hLd hLe hcap h2 hi hL0
     go_enter Tryz.func209,Tryz.ntmps209
     go_wp2_with fail
     go_ret2
     exact ⟨l,false,rfl,HO,Below.refl _ _⟩
   have hn1':((n:Int)==1)=false:=by rw [beq_eq_false_iff_ne];omega
   by_cases hL0:L=0
   ·subst hL0
    have HO:Hid (ClimbOut l i n ss ByteArray.empty false):=hid (ClimbOut.nil h2 hLe)
    clear ih h32 hS hLd hLe hcap h2 hi
    go_enter Tryz.func209,Tryz.ntmps209
    go_wp2_with fail
    go_ret2
    exact ⟨ByteArray.empty,false,rfl,HO,Below.refl _ _⟩
   have hLi:((L:Int)==0)=false:=by rw [beq_eq_false_iff_ne];omega
   obtain ⟨L1,hL1⟩: ∃L1,L=L1+1:=⟨L - 1,by omega⟩
   have hL1i:(L:Int) - 1=(L1:Int):=by omega
   have hL1w:IntKind.i64.wrap ((L:Int) - 1)=(L1:Int):=by rw [hL1i,IntKind.wrap_i64];omega
   have hL1L:(L1:Int)<(L:Int):=by omega
   have hL10:(0:Int)≤(L1:Int):=by omega
   have HSS:Hid (ss=ss.take L1++[ss.getD L1 ByteArray.empty]):=hid (by
    have h:=List.take_append_getElem (show L1<ss.length by omega)
    rw [lD,lE (show L1<ss.length by omega)]
    show ss=ss.take L1++[ss[L1]]
    rw [h,List.take_of_length_le (by omega)])
   obtain ⟨bA,oA,rfl,hcs⟩: ∃b o,a=some ⟨b,o,none⟩∧ ∀i,i<ss.length→w.cell? ⟨b,o+i,none⟩=some (.string (ss.getD i ByteArray.empty)):=by
    rcases hS with h | h
    ·rw [h] at hLe;simp at hLe;omega
    ·exact h
   have hc:=hcs L1 (by omega)
   have HS32:=hid (h32 _ (getD_mem ss L1 ByteArray.empty (by omega)))
   obtain ⟨s,hs⟩:=ex_eq (ss.getD L1 ByteArray.empty)
   rw [hs] at hc HS32 HSS
   have HCE:Hid (∀V,Below w.heap.size w V→V.cell? ⟨bA,oA+L1,none⟩=some (.string s)):=hid (fun V h=>(h.cell (World.block_lt_of_cell? _ _ hc)).trans hc)
   clear hcs hs hc
   have HA1:Hid (∀V,Below w.heap.size w V→StrsAt V (some ⟨bA,oA,none⟩) (ss.take L1)):=hid (fun V hV=>by
    have h1:=strsAt_sub (hS.later hV) (cap:=cap) (by omega) 0 L1
    rw [List.drop_zero,subA_some (by omega)] at h1
    exact h1)
   have hL1x:IntKind.i64.wrap (L1:Int)=(L1:Int):=by rw [← hL1i];exact hL1w.trans hL1i.symm
   have hLc:(L1:Int)≤(cap:Int):=by omega
   have HLD:Hid (∀V,Below w.heap.size w V→Laid V):=hid (fun V h=>hLd.later h (Nat.le_refl _))
   have hl1:(ss.take L1).length=L1:=by rw [List.length_take];omega
   have HSPL:Hid (∀w,Calls Tryz.prog 191 #[.int .i64 (n:Int)] w fun e w'=>e= .returned (.int .i64 ((Mrk.spl n:Nat):Int))∧w=w'):=hid (fun w=>refSplitM_any n h2 hn9 w)
   have hk1:=Mrk.spl_pos n
   have hk2:=Mrk.spl_lt h2
   have HN2:=hid h2
   obtain ⟨K,hK⟩:=ex_eq (Mrk.spl n)
   have HK0:=hid hK
   rw [hK] at HSPL hk1 hk2
   have hl9:L≤1000000:=hcap.2
   have hcp:L≤cap:=hcap.1
   clear hK hLe hS hLd hL1 hcap hL0 h2
   by_cases hik:i<K
   ·have hiki:(i:Int)<(K:Int):=by omega
    have HIH:=hid (fun w hS hL=>ih K hk2 hk1 (by omega) i hik (some ⟨bA,oA,none⟩) cap L1 (ss.take L1) hl1 ⟨by omega,by omega⟩ (fun s hs=>h32 s (List.mem_of_mem_take hs)) w hS hL)
    have HIK:=hid hik
    clear ih hl1 h32 hk1 hk2 hi hik hn1
    go_enter Tryz.func209,Tryz.ntmps209
    go_upto_region 5 with fail
    have HDR:Hid (Below w.heap.size w w.drew):=hid (Below.refl _ _).drew
    obtain ⟨VD,hVD⟩:=ex_eq w.drew
    rw [hVD] at HDR
    refine Kit.wp_region_gplan (fun V=>V.cell? ⟨bA,oA+L1,none⟩=some (.string s)) [(true,0),(true,1),(true,2),(true,3),(true,4),(true,5),(true,6),(true,7),(true,8),(true,9),(true,10),(true,11),(true,12)] (by kernel_rfl) (by kernel_rfl) (by kernel_rfl) (by kernel_rfl) (by rw [hVD];exact HCE.o _ HDR.o) ?_
    rw [hVD]
    clear hVD
    iterate 13 (refine Kit.ghd (h:= ?_))
    refine Kit.gdn (h:=?_)
    go_wp2_with (first
     | (go_at_call 191
        (refine (HSPL.o _).mono ?_)
        rintro e w2 ⟨rfl,rfl⟩)
     | (go_at_call 209
        (refine (HIH.o _ (HA1.o _ HDR.o) (HLD.o _ HDR.o)).mono ?_)
        rintro e w3 ⟨u3,ok3,rfl,ho3,h3⟩
        have HO3:=hid ho3.o
        have H3:Hid (Below w.heap.size w w3):=hid (HDR.o.trans (h3.mono HDR.o.size))
        clear ho3 h3)
     | (go_at_call 192
        (refine (refNode_g u3 s (HO3.o.2.2) (by rw [HS32.o];decide) _).mono ?_)
        rintro e w4 ⟨u4,rfl,hu4,hz4,h4⟩
        have HU4:=hid hu4
        have HZ4:=hid hz4
        have H4:=hid (H3.o.trans (h4.mono H3.o.size))
        clear hu4 hz4 h4))
    go_ret2
    exact ⟨u4,ok3,rfl,hid (ClimbOut.left HSS.o HN2.o HK0.o HIK.o HO3.o HU4.o HZ4.o),H4.o⟩
   ·have hiki: ¬(i:Int)<(K:Int):=by omega
    obtain ⟨I,hI⟩:=ex_eq (i - K)
    obtain ⟨J,hJ⟩:=ex_eq (n - K)
    have HIJ:=hid (And.intro hI hJ)
    have hIi:(i:Int) - (K:Int)=(I:Int):=by omega
    have hJi:(n:Int) - (K:Int)=(J:Int):=by omega
    have hI9:I≤1000:=by omega
    have hJ9:J≤1000:=by omega
    have HIH:=hid (fun w hS hL=>ih J (by omega) (by omega) (by omega) I (by omega) (some ⟨bA,oA,none⟩) cap L1 (ss.take L1) hl1 ⟨by omega,by omega⟩ (fun s hs=>h32 s (List.mem_of_mem_take hs)) w hS hL)
    have HIK:=hid hik
    clear ih hl1 h32 hk1 hk2 hi hik hn1 hI hJ
    go_enter Tryz.func209,Tryz.ntmps209
    go_upto_region 5 with fail
    have HDR:Hid (Below w.heap.size w w.drew):=hid (Below.refl _ _).drew
    obtain ⟨VD,hVD⟩:=ex_eq w.drew
    rw [hVD] at HDR
    refine Kit.wp_region_gplan (fun V=>V.cell? ⟨bA,oA+L1,none⟩=some (.string s)) [(true,0),(true,1),(true,2),(true,3),(true,4),(true,5),(true,6),(true,7),(true,8),(true,9),(true,10),(true,11),(true,12)] (by kernel_rfl) (by kernel_rfl) (by kernel_rfl) (by kernel_rfl) (by rw [hVD];exact HCE.o _ HDR.o) ?_
    rw [hVD]
    clear hVD
    iterate 13 (refine Kit.ghd (h:= ?_))
    refine Kit.gdn (h:=?_)
    go_wp2_with (first
     | (go_at_call 191
        (refine (HSPL.o _).mono ?_)
        rintro e w2 ⟨rfl,rfl⟩)
     | (go_at_call 209
        (refine (HIH.o _ (HA1.o _ HDR.o) (HLD.o _ HDR.o)).mono ?_)
        rintro e w3 ⟨u3,ok3,rfl,ho3,h3⟩
        have HO3:=hid ho3.o
        have H3:Hid (Below w.heap.size w w3):=hid (HDR.o.trans (h3.mono HDR.o.size))
        clear ho3 h3)
     | (go_at_call 192
        (refine (refNode_g s u3 (by rw [HS32.o];decide) (HO3.o.2.2) _).mono ?_)
        rintro e w4 ⟨u4,rfl,hu4,hz4,h4⟩
        have HU4:=hid hu4
        have HZ4:=hid hz4
        have H4:=hid (H3.o.trans (h4.mono H3.o.size))
        clear hu4 hz4 h4))
    go_ret2
    exact ⟨u4,ok3,rfl,hid (ClimbOut.right HSS.o HN2.o HK0.o HIK.o HIJ.o.1 HIJ.o.2 HO3.o HU4.o HZ4.o),H4.o⟩
theorem refVerifyM_ok (l:ByteArray) (hl:l.size=32) (i n:Nat) (hn1:1≤n) (hn9:n≤256) (hi:i<n) (a:Option Addr) (cap L:Nat) (ss:List ByteArray) (hLe:ss.length=L) (hcap:L≤cap) (hl9:L≤1000000) (h32: ∀s ∈ ss,s.size=32) (root:ByteArray) (hr:root.size=32) (w:World) (hS:StrsAt w a ss) (hLd:Laid w):
    Calls Tryz.prog 118 #[.string l,.int .i64 (i:Int),.int .i64 (n:Int),.slice a L cap,.string root] w fun e w'=>e= .returned (.bool (decide (Mrk.climbM (nb l) i n (ss.map nb)=some (nb root))))∧Below w.heap.size w w':=by
 obtain ⟨D,hD⟩:=ex_eq (decide (Mrk.climbM (nb l) i n (ss.map nb)=some (nb root)))
 have HD:=hid hD
 rw [hD]
 have HA1:Hid (Below w.heap.size w (w.alloc (.cells #[.string l,.string root] 9))):=hid ((Below.refl _ _).alloc (Nat.le_refl _) _)
 have HS1:=hid (refSums_any (some ⟨w.heap.size,0,none⟩) 2 2 [l,root] rfl (by decide) (w.alloc (.cells #[.string l,.string root] 9)) (strs_of_row (t:=9) (heap_alloc_new w _)))
 rw [show decide (∀s ∈ [l,root],s.size=32)=true from decide_eq_true (fun s hs=>by
  simp only [List.mem_cons,List.not_mem_nil,or_false] at hs
  rcases hs with rfl | rfl
  ·exact hl
  ·exact hr)] at HS1
 have HS2:Hid (∀V,Below w.heap.size w V→Calls Tryz.prog 208 #[.slice a L cap] V fun e w'=>e= .returned (.bool true)∧Below V.heap.size V w'):=hid (fun V h=>by
  have h1:=refSums_any a cap L ss hLe (by omega) V (hS.later h)
  rw [decide_eq_true h32] at h1
  exact h1)
 have HCL:Hid (∀V,Below w.heap.size w V→Calls Tryz.prog 209 #[.string l,.int .i64 (i:Int),.int .i64 (n:Int),.slice a L cap] V fun e w'=> ∃(u:ByteArray) (ok:Bool),e= .returned (.tuple #[.string u,.bool ok])∧Hid (ClimbOut l i n ss u ok)∧Below V.heap.size V w'):=hid (fun V h=>refUp_any l hl n hn1 hn9 i hi a cap L ss hLe ⟨hcap,hl9⟩ h32 V (hS.later h) (hLd.later h (Nat.le_refl _)))
 have hii:(i:Int)<(n:Int):=by omega
 have hi0: ¬(i:Int)<0:=by omega
 clear hD hl hr h32 hS hLd hLe hcap hi
 go_enter Tryz.func118,Tryz.ntmps118
 go_upto_region 4 with (first
  | (go_at_call 208
     (with_reducible refine HS1.o.mono ?_)
     rintro e w2 ⟨rfl,h2⟩
     have H2:Hid (Below w.heap.size w w2):=hid (HA1.o.trans (h2.mono HA1.o.size))
     clear h2)
  | (go_at_call 208
     (with_reducible refine (HS2.o _ H2.o).mono ?_)
     rintro e w3 ⟨rfl,h3⟩
     have H3:Hid (Below w.heap.size w w3):=hid (H2.o.trans (h3.mono H2.o.size))
     clear h3)
  | (go_at_call 209
     (with_reducible refine (HCL.o _ H3.o).mono ?_)
     rintro e w4 ⟨u,ok,rfl,ho,h4⟩
     have HO:=hid ho.o
     have H4:Hid (Below w.heap.size w w4):=hid (H3.o.trans (h4.mono H3.o.size))
     clear ho h4))
 cases ok
 ·have HF:Hid (D=false):=hid (by
     rw [← HD.o]
     refine decide_eq_false (fun h=> ?_)
     have h1:=HO.o.1
     rw [h] at h1
     cases h1)
  go_wp2_with fail
  go_ret
  exact ⟨by rw [HF.o];first | rfl | simp,H4.o⟩
 ·have HS:Hid (Mrk.climbM (nb l) i n (ss.map nb)=some (nb u)):=hid (by
     have h1:=HO.o.1
     cases hc:Mrk.climbM (nb l) i n (ss.map nb) with
     | none=>rw [hc] at h1;cases h1
     | some y=>rw [HO.o.2.1 y hc])
  have HE:Hid (D=decide (u=root)):=hid (by
   rw [← HD.o,HS.o]
   refine decide_eq_decide.2 ⟨fun h=>nb_inj (Option.some.inj h),fun h=>by rw [h]⟩)
  by_cases he:u=root
  ·have hq:(u.toList==root.toList)=true:=by rw [eq_str];exact decide_eq_true (congrArg nb he)
   have HT:Hid (D=true):=hid (by rw [HE.o];exact decide_eq_true he)
   clear he
   go_wp2_with fail
   go_ret
   exact ⟨by rw [HT.o];first | rfl | simp,H4.o⟩
  ·have hq:(u.toList==root.toList)=false:=by rw [eq_str];exact decide_eq_false (fun h=>he (nb_inj h))
   have HT:Hid (D=false):=hid (by rw [HE.o];exact decide_eq_false he)
   clear he
   go_wp2_with fail
   go_ret
   exact ⟨by rw [HT.o];first | rfl | simp,H4.o⟩
theorem refVerifyR_any (pk:ByteArray) (B H:Int) (hol vlt:Int) (str:ByteArray) (ix sz day ser cnt pl:Int) (root:ByteArray) (ap:Option Addr) (n1 c1:Nat) (si:Int) (aq:Option Addr) (n2 c2:Nat) (ar:Option Addr) (n3 c3:Nat) (pa pt sq:List ByteArray) (w:World) (h1:pa.length=n1) (k1:n1<9223372036854775808) (s1:StrsAt w ap pa) (h2:pt.length=n2) (k2:n2<9223372036854775808) (s2:StrsAt w aq pt) (h3:sq.length=n3) (k3:n3<9223372036854775808) (s3:StrsAt w ar sq) (hc1:n1≤c1) (hLd:Laid w):Calls Tryz.prog 31 #[.string pk,.agg #[.int .i64 B,.int .i64 H],.agg #[.int .i64 hol,.int .i64 vlt,.string str,.int .i64 ix,.int .i64 sz,.int .i64 day,.int .i64 ser,.int .i64 cnt,.int .i64 pl,.string root,.slice ap n1 c1,.int .i64 si,.slice aq n2 c2,.slice ar n3 c3]] w fun e w'=>e= .returned (.bool (verR B H (nb pk) ⟨hol,vlt,str,ix,sz,day,ser,cnt,pl,root,pa,si,pt,sq⟩))∧Below w.heap.size w w':=by
 obtain ⟨VA,hVA⟩:=ex_eq (validR ⟨hol,vlt,str,ix,sz,day,ser,cnt,pl,root,pa,si,pt,sq⟩)
 have HVA:Hid (∀V,Below w.heap.size w V→Calls Tryz.prog 29 #[.agg #[.int .i64 hol,.int .i64 vlt,.string str,.int .i64 ix,.int .i64 sz,.int .i64 day,.int .i64 ser,.int .i64 cnt,.int .i64 pl,.string root,.slice ap n1 c1,.int .i64 si,.slice aq n2 c2,.slice ar n3 c3]] V fun e w'=>e= .returned (.bool VA)∧Below V.heap.size V w'):=hid (fun V h=>by
  have h0:=refValidR_any hol vlt str ix sz day ser cnt pl root ap n1 c1 si aq n2 c2 ar n3 c3 pa pt sq V h1 k1 (s1.later h) h2 k2 (s2.later h) h3 k3 (s3.later h)
  rw [hVA] at h0
  exact h0)
 obtain ⟨D1,hD1⟩:=ex_eq (decide (Mrk.climbM (leafR ⟨hol,vlt,str,ix,sz,day,ser,cnt,pl,root,pa,si,pt,sq⟩) pl.toNat cnt.toNat (pa.map nb)=some (nb root)))
 obtain ⟨D2,hD2⟩:=ex_eq (decide (SigAcc B H (nb pk) (batchR (nb root) cnt.toNat) si (pt.map nb) (sq.map nb)))
 have HF0:Hid (verR B H (nb pk) ⟨hol,vlt,str,ix,sz,day,ser,cnt,pl,root,pa,si,pt,sq⟩=(VA && (D1 && D2))):=hid (by
  unfold verR
  rw [hVA,← hD1,← hD2])
 have HVT:Hid (VA=true→ValidR ⟨hol,vlt,str,ix,sz,day,ser,cnt,pl,root,pa,si,pt,sq⟩):=hid (fun h=>validR_iff.1 (by rw [hVA,h]))
 have HD1:=hid hD1
 have HD2:=hid hD2
 obtain ⟨F,hF⟩:=ex_eq (verR B H (nb pk) ⟨hol,vlt,str,ix,sz,day,ser,cnt,pl,root,pa,si,pt,sq⟩)
 rw [hF] at HF0 ⊢
 have HH1:=hid h1
 have HH2:=hid h2
 have HH3:=hid h3
 have HK1:=hid k1
 have HK2:=hid k2
 have HK3:=hid k3
 have HS1:=hid s1
 have HS2:=hid s2
 have HS3:=hid s3
 have HC1:=hid hc1
 have HLD:=hid hLd
 clear hF hVA hD1 hD2 hc1 hLd h1 h2 h3 k1 k2 k3 s1 s2 s3
 go_enter Tryz.func31,Tryz.ntmps31
 go_upto_region 1 with fail
 refine wp_over (fun W=>Hid (W.heap[w.heap.size]? =some (.cells #[.int .i64 B,.int .i64 H] 23 (0,0)))∧Hid (W.heap[w.heap.size+1]? =some (.cells #[.int .i64 hol,.int .i64 vlt,.string str,.int .i64 ix,.int .i64 sz,.int .i64 day,.int .i64 ser,.int .i64 cnt,.int .i64 pl,.string root,.slice ap n1 c1,.int .i64 si,.slice aq n2 c2,.slice ar n3 c3] 47 (0,0)))∧Hid (Below w.heap.size w W)∧Hid (W.heap.size=w.heap.size+2)) ⟨two_rows1,two_rows2,two_below,two_size⟩ ?_
 rintro W ⟨HG,HG2,HB,HWS⟩
 have HBW0:Hid (∀V,Below (w.heap.size+1+1) W V→Below w.heap.size w V):=hid (fun V h=>HB.o.trans (h.mono (by omega)))
 obtain ⟨N,hN⟩:=ex_eq w.heap.size
 obtain ⟨N1,hN1⟩:=ex_eq (w.heap.size+1)
 have HBW:Hid (∀V,Below (N1+1) W V→Below w.heap.size w V):=hid (fun V h=>HBW0.o V (by rw [hN1];exact h))
 have HNN:Hid (N1=N+1):=hid (by omega)
 have HWS:Hid (W.heap.size=N1+1):=hid (by have:=HWS.o;omega)
 rw [hN1] at HG2 ⊢
 rw [hN] at HG HB ⊢
 clear hN hN1 HBW0
 have HCC:Hid (∀V,Below (N1+1) W V→(V.cell? ⟨N,0,none⟩=some (.int .i64 B)∧V.cell? ⟨N,1,none⟩=some (.int .i64 H))∧V.cell? ⟨N1,0,none⟩=some (.int .i64 hol)∧V.cell? ⟨N1,1,none⟩=some (.int .i64 vlt)∧V.cell? ⟨N1,2,none⟩=some (.string str)∧V.cell? ⟨N1,3,none⟩=some (.int .i64 ix)∧V.cell? ⟨N1,4,none⟩=some (.int .i64 sz)∧V.cell? ⟨N1,5,none⟩=some (.int .i64 day)∧V.cell? ⟨N1,6,none⟩=some (.int .i64 ser)∧V.cell? ⟨N1,7,none⟩=some (.int .i64 cnt)∧V.cell? ⟨N1,8,none⟩=some (.int .i64 pl)∧V.cell? ⟨N1,9,none⟩=some (.string root)∧V.cell? ⟨N1,10,none⟩=some (.slice ap n1 c1)∧V.cell? ⟨N1,11,none⟩=some (.int .i64 si)∧V.cell? ⟨N1,12,none⟩=some (.slice aq n2 c2)∧V.cell? ⟨N1,13,none⟩=some (.slice ar n3 c3)):=hid (fun V h=>by
  have hr:=(h.block N (by have:=HNN.o;omega)).trans HG.o
  exact ⟨⟨cr hr,cr hr⟩,row14 ((h.block N1 (Nat.lt_succ_self _)).trans HG2.o)⟩)
 have HST:Hid (∀V V',Below (N1+1) W V→Below V.heap.size V V'→Below (N1+1) W V'):=hid (fun V V' h h'=>h.trans (h'.mono (by have:=h.size;have:=HWS.o;omega)))
 have HDR:Hid (Below (N1+1) W W.drew):=hid (Below.refl _ _).drew
 clear HG HG2 HB
 obtain ⟨VD,hVD⟩:=ex_eq W.drew
 rw [hVD] at HDR
 cases VA
 ·have HF:Hid (F=false):=hid (by rw [HF0.o];rfl)
  refine Kit.wp_region_hplan (fun V=>(V.cell? ⟨N,0,none⟩=some (.int .i64 B)∧V.cell? ⟨N,1,none⟩=some (.int .i64 H))∧V.cell? ⟨N1,0,none⟩=some (.int .i64 hol)∧V.cell? ⟨N1,1,none⟩=some (.int .i64 vlt)∧V.cell? ⟨N1,2,none⟩=some (.string str)∧V.cell? ⟨N1,3,none⟩=some (.int .i64 ix)∧V.cell? ⟨N1,4,none⟩=some (.int .i64 sz)∧V.cell? ⟨N1,5,none⟩=some (.int .i64 day)∧V.cell? ⟨N1,6,none⟩=some (.int .i64 ser)∧V.cell? ⟨N1,7,none⟩=some (.int .i64 cnt)∧V.cell? ⟨N1,8,none⟩=some (.int .i64 pl)∧V.cell? ⟨N1,9,none⟩=some (.string root)∧V.cell? ⟨N1,10,none⟩=some (.slice ap n1 c1)∧V.cell? ⟨N1,11,none⟩=some (.int .i64 si)∧V.cell? ⟨N1,12,none⟩=some (.slice aq n2 c2)∧V.cell? ⟨N1,13,none⟩=some (.slice ar n3 c3)) [(true,0),(false,1),(true,2),(true,3),(true,4),(true,6),(true,7),(true,8),(true,9),(true,10),(true,11),(true,12),(true,13),(false,5),(false,14),(true,15),(true,16)] (by kernel_rfl) (by kernel_rfl) (by kernel_rfl) (by kernel_rfl) (by rw [hVD];exact HCC.o _ HDR.o) ?_
  rw [hVD]
  clear hVD
  iterate 1 (refine Kit.hhd (h:= ?_))
  refine Kit.hplan_op (by rfl) (by rfl) fun K hK=> ?_
  go_simp
  go_at_call 29
  with_reducible refine (HVA.o _ (HBW.o _ HDR.o)).mono ?_
  rintro e w2 ⟨rfl,h2⟩
  have H1:Hid (Below (N1+1) W w2):=hid (HST.o _ _ HDR.o h2)
  clear h2
  refine hK _ _ (HCC.o _ H1.o) ?_
  clear hK K
  iterate 11 (refine Kit.hhd (h:= ?_))
  refine Kit.hsk (h:=?_)
  refine Kit.hsk (h:=?_)
  iterate 2 (refine Kit.hhd (h:= ?_))
  refine Kit.hdn (h:=?_)
  (try go_wp2_with fail)
  go_ret
  exact ⟨by rw [HF.o];first | rfl | simp,HBW.o _ H1.o⟩
 have HVR:=hid (HVT.o rfl)
 have HLF:Hid (∀V,Below w.heap.size w V→Calls Tryz.prog 30 #[.agg #[.int .i64 hol,.int .i64 vlt,.string str,.int .i64 ix,.int .i64 sz,.int .i64 day,.int .i64 ser,.int .i64 cnt,.int .i64 pl,.string root,.slice ap n1 c1,.int .i64 si,.slice aq n2 c2,.slice ar n3 c3]] V fun e w'=> ∃u:ByteArray,e= .returned (.string u)∧nb u=leafR ⟨hol,vlt,str,ix,sz,day,ser,cnt,pl,root,pa,si,pt,sq⟩∧u.size=32∧Below V.heap.size V w'):=hid (fun V h=>refLeafR_ok hol vlt str ix sz day ser cnt pl root ap n1 c1 si aq n2 c2 ar n3 c3 pa pt sq HVR.o.sgv _ rfl V)
 obtain ⟨e6,he6⟩: ∃n:Nat,cnt=(n:Int):=⟨cnt.toNat,by have:=HVR.o.c0;simp only at this;omega⟩
 obtain ⟨e7,he7⟩: ∃n:Nat,pl=(n:Int):=⟨pl.toNat,by have:=HVR.o.p0;simp only at this;omega⟩
 have HE:Hid (1≤e6∧e6≤256∧e7<e6):=hid ⟨by have:=HVR.o.c0;simp only at this;omega,by have:=HVR.o.c1;simp only at this;omega,by have:=HVR.o.p1;simp only at this;omega⟩
 have HT6:Hid (cnt.toNat=e6∧pl.toNat=e7):=hid ⟨by omega,by omega⟩
 have HMV:Hid (∀(u:ByteArray),nb u=leafR ⟨hol,vlt,str,ix,sz,day,ser,cnt,pl,root,pa,si,pt,sq⟩→u.size=32→ ∀V,Below w.heap.size w V→Calls Tryz.prog 118 #[.string u,.int .i64 (e7:Int),.int .i64 (e6:Int),.slice ap n1 c1,.string root] V fun e w'=>e= .returned (.bool D1)∧Below V.heap.size V w'):=hid (fun u hu hz V h=>by
  have h0:=refVerifyM_ok u hz e7 e6 HE.o.1 HE.o.2.1 HE.o.2.2 ap c1 n1 pa HH1.o HC1.o (by have:=HVR.o.pn;have:=HH1.o;simp only at*;omega) HVR.o.ps root HVR.o.rt V (HS1.o.later h) (HLD.o.later h (Nat.le_refl _))
  rw [hu,← HT6.o.1,← HT6.o.2,HD1.o,HT6.o.1,HT6.o.2] at h0
  exact h0)
 have HBD:Hid (∀V,Below w.heap.size w V→Calls Tryz.prog 99 #[.string root,.int .i64 (e6:Int)] V fun e w'=> ∃u:ByteArray,e= .returned (.string u)∧nb u=batchR (nb root) e6∧u.size=32∧Below V.heap.size V w'):=hid (fun V h=>refBatch_ok root HVR.o.rt e6 (by have:=HE.o.2.1;omega) _ rfl V)
 have HSV:Hid (∀(u2:ByteArray),nb u2=batchR (nb root) e6→ ∀V,Below w.heap.size w V→Calls Tryz.prog 119 #[.agg #[.int .i64 B,.int .i64 H],.string u2,.agg #[.int .i64 si,.slice aq n2 c2,.slice ar n3 c3]] V fun e w'=>Below V.heap.size V w'∧((∃u:ByteArray,e= .returned (.tuple #[.string u,.int .i64 0])∧decide (u=pk)=D2)∨(e= .returned (.tuple #[.string ByteArray.empty,.int .i64 1])∧D2=false))):=hid (fun u2 hu V h=>by
  have h0:=refSigRoot_any B H u2 si (.agg #[.int .i64 si,.slice aq n2 c2,.slice ar n3 c3]) pt sq (by rw [HH2.o];exact HK2.o) (by rw [HH3.o];exact HK3.o) V ⟨aq,n2,c2,ar,n3,c3,rfl,HH2.o,HS2.o.later h,HH3.o,HS3.o.later h⟩
  have h1:=HD2.o
  rw [HT6.o.1,← hu] at h1
  refine h0.mono ?_
  rintro e w' ⟨hb,⟨hf,u,he,hu1,_⟩ | ⟨hf,he⟩⟩
  ·refine ⟨hb,.inl ⟨u,he,?_⟩⟩
   rw [← h1]
   refine decide_eq_decide.2 ⟨fun e=>⟨hf,by rw [← e,hu1]⟩,fun e=>nb_inj (by rw [hu1];exact e.2)⟩
  ·refine ⟨hb,.inr ⟨he,?_⟩⟩
   rw [← h1]
   exact decide_eq_false (fun e=>hf e.1))
 clear HD1 HD2 HVT
 subst he6 he7
 cases D1
 ·have HF:Hid (F=false):=hid (by rw [HF0.o];rfl)
  refine Kit.wp_region_hplan (fun V=>(V.cell? ⟨N,0,none⟩=some (.int .i64 B)∧V.cell? ⟨N,1,none⟩=some (.int .i64 H))∧V.cell? ⟨N1,0,none⟩=some (.int .i64 hol)∧V.cell? ⟨N1,1,none⟩=some (.int .i64 vlt)∧V.cell? ⟨N1,2,none⟩=some (.string str)∧V.cell? ⟨N1,3,none⟩=some (.int .i64 ix)∧V.cell? ⟨N1,4,none⟩=some (.int .i64 sz)∧V.cell? ⟨N1,5,none⟩=some (.int .i64 day)∧V.cell? ⟨N1,6,none⟩=some (.int .i64 ser)∧V.cell? ⟨N1,7,none⟩=some (.int .i64 (e6:Int))∧V.cell? ⟨N1,8,none⟩=some (.int .i64 (e7:Int))∧V.cell? ⟨N1,9,none⟩=some (.string root)∧V.cell? ⟨N1,10,none⟩=some (.slice ap n1 c1)∧V.cell? ⟨N1,11,none⟩=some (.int .i64 si)∧V.cell? ⟨N1,12,none⟩=some (.slice aq n2 c2)∧V.cell? ⟨N1,13,none⟩=some (.slice ar n3 c3)) [(true,0),(false,1),(true,2),(true,3),(true,4),(true,6),(true,7),(true,8),(true,9),(true,10),(true,11),(true,12),(true,13),(false,5),(false,14),(true,15),(true,16)] (by kernel_rfl) (by kernel_rfl) (by kernel_rfl) (by kernel_rfl) (by rw [hVD];exact HCC.o _ HDR.o) ?_
  rw [hVD]
  clear hVD
  iterate 1 (refine Kit.hhd (h:= ?_))
  refine Kit.hplan_op (by rfl) (by rfl) fun K hK=> ?_
  go_simp
  go_at_call 29
  with_reducible refine (HVA.o _ (HBW.o _ HDR.o)).mono ?_
  rintro e w2 ⟨rfl,h2⟩
  have H1:Hid (Below (N1+1) W w2):=hid (HST.o _ _ HDR.o h2)
  clear h2
  refine hK _ _ (HCC.o _ H1.o) ?_
  clear hK K
  iterate 11 (refine Kit.hhd (h:= ?_))
  refine Kit.hplan_op (by rfl) (by rfl) fun K hK=> ?_
  go_simp
  go_at_call 30
  with_reducible refine (HLF.o _ (HBW.o _ H1.o)).mono ?_
  rintro e w2 ⟨u,rfl,hu,hz,h2⟩
  have HU:=hid hu
  have HZ:=hid hz
  clear hu hz
  have H2:Hid (Below (N1+1) W w2):=hid (HST.o _ _ H1.o h2)
  clear h2
  refine hK _ _ (HCC.o _ H2.o) ?_
  clear hK K
  refine Kit.hplan_op (by rfl) (by rfl) fun K hK=> ?_
  go_simp
  go_at_call 118
  with_reducible refine (HMV.o u HU.o HZ.o _ (HBW.o _ H2.o)).mono ?_
  rintro e w3 ⟨rfl,h2⟩
  have H3:Hid (Below (N1+1) W w3):=hid (HST.o _ _ H2.o h2)
  clear h2
  refine hK _ _ (HCC.o _ H3.o) ?_
  clear hK K
  iterate 2 (refine Kit.hhd (h:= ?_))
  refine Kit.hdn (h:=?_)
  (try go_wp2_with fail)
  go_ret
  exact ⟨by rw [HF.o];first | rfl | simp,HBW.o _ H3.o⟩
 have HF:Hid (F=D2):=hid (by rw [HF0.o];rfl)
 refine Kit.wp_region_hplan (fun V=>(V.cell? ⟨N,0,none⟩=some (.int .i64 B)∧V.cell? ⟨N,1,none⟩=some (.int .i64 H))∧V.cell? ⟨N1,0,none⟩=some (.int .i64 hol)∧V.cell? ⟨N1,1,none⟩=some (.int .i64 vlt)∧V.cell? ⟨N1,2,none⟩=some (.string str)∧V.cell? ⟨N1,3,none⟩=some (.int .i64 ix)∧V.cell? ⟨N1,4,none⟩=some (.int .i64 sz)∧V.cell? ⟨N1,5,none⟩=some (.int .i64 day)∧V.cell? ⟨N1,6,none⟩=some (.int .i64 ser)∧V.cell? ⟨N1,7,none⟩=some (.int .i64 (e6:Int))∧V.cell? ⟨N1,8,none⟩=some (.int .i64 (e7:Int))∧V.cell? ⟨N1,9,none⟩=some (.string root)∧V.cell? ⟨N1,10,none⟩=some (.slice ap n1 c1)∧V.cell? ⟨N1,11,none⟩=some (.int .i64 si)∧V.cell? ⟨N1,12,none⟩=some (.slice aq n2 c2)∧V.cell? ⟨N1,13,none⟩=some (.slice ar n3 c3)) [(true,0),(false,1),(true,2),(true,3),(true,4),(true,6),(true,7),(true,8),(true,9),(true,10),(true,11),(true,12),(true,13),(false,5),(false,14),(true,15),(true,16)] (by kernel_rfl) (by kernel_rfl) (by kernel_rfl) (by kernel_rfl) (by rw [hVD];exact HCC.o _ HDR.o) ?_
 rw [hVD]
 clear hVD
 iterate 1 (refine Kit.hhd (h:= ?_))
 refine Kit.hplan_op (by rfl) (by rfl) fun K hK=> ?_
 go_simp
 go_at_call 29
 with_reducible refine (HVA.o _ (HBW.o _ HDR.o)).mono ?_
 rintro e w2 ⟨rfl,h2⟩
 have H1:Hid (Below (N1+1) W w2):=hid (HST.o _ _ HDR.o h2)
 clear h2
 refine hK _ _ (HCC.o _ H1.o) ?_
 clear hK K
 iterate 11 (refine Kit.hhd (h:= ?_))
 refine Kit.hplan_op (by rfl) (by rfl) fun K hK=> ?_
 go_simp
 go_at_call 30
 with_reducible refine (HLF.o _ (HBW.o _ H1.o)).mono ?_
 rintro e w2 ⟨u,rfl,hu,hz,h2⟩
 have HU:=hid hu
 have HZ:=hid hz
 clear hu hz
 have H2:Hid (Below (N1+1) W w2):=hid (HST.o _ _ H1.o h2)
 clear h2
 refine hK _ _ (HCC.o _ H2.o) ?_
 clear hK K
 refine Kit.hplan_op (by rfl) (by rfl) fun K hK=> ?_
 go_simp
 go_at_call 118
 with_reducible refine (HMV.o u HU.o HZ.o _ (HBW.o _ H2.o)).mono ?_
 rintro e w3 ⟨rfl,h2⟩
 have H3:Hid (Below (N1+1) W w3):=hid (HST.o _ _ H2.o h2)
 clear h2
 refine hK _ _ (HCC.o _ H3.o) ?_
 clear hK K
 iterate 2 (refine Kit.hhd (h:= ?_))
 refine Kit.hdn (h:=?_)
 go_upto_region 3 with fail
 obtain ⟨VE,hVE⟩:=ex_eq w3.drew
 have HDE:Hid (Below (N1+1) W VE):=hid (by rw [← hVE];exact HST.o _ _ H3.o (Below.refl _ _).drew)
 refine Kit.wp_region_hplan (fun V=>(V.cell? ⟨N,0,none⟩=some (.int .i64 B)∧V.cell? ⟨N,1,none⟩=some (.int .i64 H))∧V.cell? ⟨N1,0,none⟩=some (.int .i64 hol)∧V.cell? ⟨N1,1,none⟩=some (.int .i64 vlt)∧V.cell? ⟨N1,2,none⟩=some (.string str)∧V.cell? ⟨N1,3,none⟩=some (.int .i64 ix)∧V.cell? ⟨N1,4,none⟩=some (.int .i64 sz)∧V.cell? ⟨N1,5,none⟩=some (.int .i64 day)∧V.cell? ⟨N1,6,none⟩=some (.int .i64 ser)∧V.cell? ⟨N1,7,none⟩=some (.int .i64 (e6:Int))∧V.cell? ⟨N1,8,none⟩=some (.int .i64 (e7:Int))∧V.cell? ⟨N1,9,none⟩=some (.string root)∧V.cell? ⟨N1,10,none⟩=some (.slice ap n1 c1)∧V.cell? ⟨N1,11,none⟩=some (.int .i64 si)∧V.cell? ⟨N1,12,none⟩=some (.slice aq n2 c2)∧V.cell? ⟨N1,13,none⟩=some (.slice ar n3 c3)) [(true,0),(true,1),(true,2),(true,3),(true,4),(true,6),(true,7),(false,5),(false,8),(true,9),(true,10),(true,11),(true,12),(true,13)] (by kernel_rfl) (by kernel_rfl) (by kernel_rfl) (by kernel_rfl) (by rw [hVE];exact HCC.o _ HDE.o) ?_
 rw [hVE]
 clear hVE
 iterate 7 (refine Kit.hhd (h:= ?_))
 refine Kit.hplan_op (by rfl) (by rfl) fun K hK=> ?_
 go_simp
 go_at_call 99
 with_reducible refine (HBD.o _ (HBW.o _ HDE.o)).mono ?_
 rintro e w4 ⟨u2,rfl,hu2,hz2,h2⟩
 have HU2:=hid hu2
 clear hu2 hz2
 have H4:Hid (Below (N1+1) W w4):=hid (HST.o _ _ HDE.o h2)
 clear h2
 refine hK _ _ (HCC.o _ H4.o) ?_
 clear hK K
 refine Kit.hplan_op (by rfl) (by rfl) fun K hK=> ?_
 go_simp
 go_at_call 119
 with_reducible refine (HSV.o u2 HU2.o _ (HBW.o _ H4.o)).mono ?_
 rintro e w5 ⟨h2,⟨u5,rfl,hu5⟩ | ⟨rfl,hD⟩⟩
 ·have HU5:=hid hu5
  clear hu5
  have H5:Hid (Below (N1+1) W w5):=hid (HST.o _ _ H4.o h2)
  clear h2
  refine hK _ _ (HCC.o _ H5.o) ?_
  clear hK K
  iterate 5 (refine Kit.hhd (h:= ?_))
  refine Kit.hdn (h:=?_)
  by_cases he:u5=pk
  ·have hq:(u5.toList==pk.toList)=true:=by rw [eq_str];exact decide_eq_true (congrArg nb he)
   have HT:Hid (D2=true):=hid (by rw [← HU5.o];exact decide_eq_true he)
   clear he
   go_wp2_with fail
   go_ret
   exact ⟨by rw [HF.o,HT.o];first | rfl | simp,HBW.o _ H5.o⟩
  ·have hq:(u5.toList==pk.toList)=false:=by rw [eq_str];exact decide_eq_false (fun h=>he (nb_inj h))
   have HT:Hid (D2=false):=hid (by rw [← HU5.o];exact decide_eq_false he)
   clear he
   go_wp2_with fail
   go_ret
   exact ⟨by rw [HF.o,HT.o];first | rfl | simp,HBW.o _ H5.o⟩
 ·have HT:=hid hD
  clear hD
  have H5:Hid (Below (N1+1) W w5):=hid (HST.o _ _ H4.o h2)
  clear h2
  refine hK _ _ (HCC.o _ H5.o) ?_
  clear hK K
  iterate 5 (refine Kit.hhd (h:= ?_))
  refine Kit.hdn (h:=?_)
  go_wp2_with fail
  go_ret
  exact ⟨by rw [HF.o,HT.o];first | rfl | simp,HBW.o _ H5.o⟩
end Go.Proofs.YtndlihclgdkpaaaGreatDoor
