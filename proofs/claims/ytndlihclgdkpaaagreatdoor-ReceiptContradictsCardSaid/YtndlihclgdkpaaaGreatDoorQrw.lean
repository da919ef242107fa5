/- Rows of structs in memory, whatever their size; receipts in memory. -/
import Derived.Laws.MakeOwn
import Derived.Test.YtndlihclgdkpaaaGreatDoorQct
set_option linter.unusedVariables false
set_option linter.unusedSimpArgs false
open Go.Lib (hid)
namespace Go.Proofs.YtndlihclgdkpaaaGreatDoor
open Go.RowKit
open Kit (Chg)
open Sha (v)
open Go.Proofs.YtndlihclgdkpaaaGreatDoor.One

section
variable {α:Type} {f:α→List Value} {n:Nat} {T:TypeId}
theorem rw_len (hf: ∀x,(f x).length=n): ∀l:List α,(l.flatMap f).length=l.length*n
 | []=>by simp
 | x::l=>by rw [List.flatMap_cons,List.length_append,rw_len hf l,hf,List.length_cons,Nat.add_mul];omega
theorem rw_get (hf: ∀x,(f x).length=n): ∀(l:List α) (i:Nat) (hi:i<l.length) (j:Nat),j<n→(l.flatMap f)[i*n+j]? =(f l[i])[j]?
 | [],i,hi,j,hj=>by simp at hi
 | x::l,0,hi,j,hj=>by
   rw [List.flatMap_cons,List.getElem?_append_left (by rw [hf];omega),Nat.zero_mul,Nat.zero_add]
   rfl
 | x::l,i+1,hi,j,hj=>by
   rw [List.flatMap_cons,List.getElem?_append_right (by rw [hf,Nat.add_mul];omega),hf,show (i+1)*n+j - n=i*n+j by rw [Nat.add_mul];omega]
   exact rw_get hf l i (by simpa using hi) j hj
theorem rw_cut (l:List α) (k:Nat) (hk:k<l.length):l.flatMap f=(l.take k).flatMap f++(f l[k]++(l.drop (k+1)).flatMap f):=by
 conv=>lhs;rw [← List.take_append_drop k l,List.drop_eq_getElem_cons hk]
 rw [List.flatMap_append,List.flatMap_cons]
theorem rw_set (l:List α) (k:Nat) (hk:k<l.length) (y:α):(l.set k y).flatMap f=(l.take k).flatMap f++(f y++(l.drop (k+1)).flatMap f):=by
 have h:=rw_cut (f:=f) (l.set k y) k (by rw [List.length_set];exact hk)
 rw [List.getElem_set_self,List.take_set_of_le (Nat.le_refl k),List.drop_set_of_lt (Nat.lt_succ_self k)] at h
 exact h
theorem putL_mid {N:Nat}: ∀(vs pre mid post:List Value) (w:World),w.heap[N]? =some (.cells (pre++(mid++post)).toArray T (0,0))→mid.length=vs.length→(putL N pre.length vs w).heap[N]? =some (.cells (pre++(vs++post)).toArray T (0,0))
 | [],pre,mid,post,w,h,hl=>by
   have:mid=[]:=List.eq_nil_of_length_eq_zero hl
   subst this
   exact h
 | v::vs,pre,c::mid,post,w,h,hl=>by
   have h1:=heap_setCell_same w N pre.length _ T v h
   have h2:((pre++(c::mid++post)).toArray.setIfInBounds pre.length v)=((pre++[v])++(mid++post)).toArray:=by
    simp [List.set_append_right]
   rw [h2] at h1
   have h3:=putL_mid vs (pre++[v]) mid post (w.setCell ⟨N,pre.length,none⟩ v) h1 (by simpa using hl)
   rw [List.length_append,List.append_assoc] at h3
   exact h3
 | v::vs,pre,[],post,w,h,hl=>by simp at hl
def RowN (f:α→List Value) (n:Nat) (T:TypeId) (w:World) (bl cap:Nat) (xs:List α):Prop:= ∃rest:List Value,w.heap[bl]? =some (.cells (xs.flatMap f++rest).toArray T (0,0))∧xs.length≤cap∧cap≤maxLen∧(xs.flatMap f++rest).length=cap*n
theorem RowN.lt {w:World} {bl cap:Nat} {xs:List α} (h:RowN f n T w bl cap xs):bl<w.heap.size:=by
 obtain ⟨_,hg,_⟩:=h
 exact (gS hg).1
theorem RowN.keep {w w':World} {bl cap:Nat} {xs:List α} (h:RowN f n T w bl cap xs) (he:w'.heap[bl]? =w.heap[bl]?):RowN f n T w' bl cap xs:=by
 obtain ⟨r,h1,h2⟩:=h
 exact ⟨r,he.trans h1,h2⟩
theorem RowN.later {w w':World} {bl cap:Nat} {xs:List α} (h:RowN f n T w bl cap xs) (hb:Below w.heap.size w w'):RowN f n T w' bl cap xs:=h.keep (hb.block bl h.lt)
theorem RowN.cells (hf: ∀x,(f x).length=n) {w:World} {bl cap:Nat} {xs:List α} (h:RowN f n T w bl cap xs) (k:Nat) (hk:k<xs.length):(∀j,j<n→w.cell? ⟨bl,k*n+j,none⟩=(f xs[k])[j]?)∧ ∀i,w.frozen? ⟨bl,i,none⟩=false:=by
 obtain ⟨r,hg,_⟩:=h
 refine ⟨fun j hj=> ?_,fun i=>frozen_of_row _ _ _ _ _ hg⟩
 have h1:=rw_get hf xs k hk j hj
 have h2:(xs.flatMap f++r)[k*n+j]? =(f xs[k])[j]? :=by
  rw [List.getElem?_append_left,h1]
  rw [rw_len hf]
  have:(k+1)*n≤xs.length*n:=Nat.mul_le_mul_right _ hk
  rw [Nat.add_mul] at this
  omega
 rw [cell_of_row _ _ _ _ _ _ hg,← h2]
 simp
theorem RowN.put (hf: ∀x,(f x).length=n) {w:World} {bl cap:Nat} {xs:List α} (h:RowN f n T w bl cap xs) (k:Nat) (hk:k<xs.length) (y:α):RowN f n T (putL bl (k*n) (f y) w) bl cap (xs.set k y):=by
 obtain ⟨r,hg,h1,h2,h3⟩:=h
 refine ⟨r,?_,by rw [List.length_set];exact h1,h2,?_⟩
 ·rw [rw_cut xs k hk,List.append_assoc,List.append_assoc] at hg
  have hl:((xs.take k).flatMap f).length=k*n:=by rw [rw_len hf,List.length_take,Nat.min_eq_left (by omega)]
  have h4:=putL_mid (f y) _ (f xs[k]) _ w hg (by rw [hf,hf])
  rw [hl] at h4
  rw [rw_set xs k hk y,List.append_assoc,List.append_assoc]
  exact h4
 ·rw [List.length_append,rw_len hf] at h3 ⊢
  rw [List.length_set]
  exact h3
theorem RowN.own (hf: ∀x,(f x).length=n) (hn:0<n) {w:World} {B bl cap:Nat} {xs:List α} (h:RowN f n T w bl cap xs) (hb:B≤bl):w.ownsRow B T n (.slice (some ⟨bl,0,none⟩) xs.length cap) xs.length (xs.flatMap f):=by
 obtain ⟨r,hg,h1,h2,h3⟩:=h
 exact ⟨rw_len hf xs,.inr ⟨bl,cap,_,rfl,hb,hg,h1,h2,by simpa using h3,by simp [← rw_len hf xs]⟩⟩
theorem RowN.of (hf: ∀x,(f x).length=n) {w:World} {B bl m cap:Nat} {xs:List α} (h:w.ownsRow B T n (.slice (some ⟨bl,0,none⟩) m cap) m (xs.flatMap f)) (hn:xs.length=m):RowN f n T w bl cap xs∧B≤bl:=by
 obtain ⟨hl,hv⟩:=h
 rcases hv with ⟨h0,_⟩ | ⟨g,cap',cur,he,hbg,hg,hnc,hcm,hcs,htake⟩
 ·cases h0
 ·injection he with e1 e2 e3
  injection e1 with e1
  injection e1 with e1
  subst e1 e3
  refine ⟨⟨cur.toList.drop (m*n),?_,by omega,hcm,?_⟩,hbg⟩
  ·rw [← htake,List.take_append_drop,Array.toArray_toList]
   exact hg
  ·rw [← htake,List.take_append_drop,Array.length_toList]
   exact hcs
theorem made_rows (z:List Value) (n:Nat) (hz:z.length=n) (L:Nat):madeCells z.toArray (L*n)=((List.replicate L ()).flatMap fun _=>z).toArray:=by
 apply Array.ext
 ·rw [size_madeCells,List.size_toArray,rw_len (f:=fun _:Unit=>z) (fun _=>hz),List.length_replicate]
 ·intro i h1 h2
  rw [size_madeCells] at h1
  have hn:0<n:=by
   rcases Nat.eq_zero_or_pos n with e | e
   ·rw [e] at h1;simp at h1
   ·exact e
  have hi:i/n<(List.replicate L ()).length:=by
   rw [List.length_replicate,Nat.div_lt_iff_lt_mul hn]
   exact h1
  have h3:=rw_get (f:=fun _:Unit=>z) (fun _=>hz) (List.replicate L ()) (i/n) hi (i % n) (Nat.mod_lt _ hn)
  rw [Nat.div_add_mod' i n] at h3
  have h4:i % n<z.length:=by rw [hz];exact Nat.mod_lt _ hn
  unfold madeCells
  simp only [Array.getElem_map,Array.getElem_range,List.size_toArray,hz]
  rw [List.getElem_toArray]
  have h5:=lE (l:=(List.replicate L ()).flatMap fun _=>z) (by simpa using h2)
  rw [h5] at h3
  rw [lE h4] at h3
  rw [Option.some.inj h3]
  simp [h4]
end
structure RcV where
 r:Rc
 a1:Option Addr
 c1:Nat
 a2:Option Addr
 c2:Nat
 a3:Option Addr
 c3:Nat
def RcV.cells (x:RcV):List Value:=[.int .i64 x.r.hol,.int .i64 x.r.vlt,.string x.r.str,.int .i64 x.r.ix,.int .i64 x.r.sz,.int .i64 x.r.day,.int .i64 x.r.ser,.int .i64 x.r.cnt,.int .i64 x.r.pl,.string x.r.root,.slice x.a1 x.r.path.length x.c1,.int .i64 x.r.si,.slice x.a2 x.r.parts.length x.c2,.slice x.a3 x.r.sp.length x.c3]
theorem RcV.len (x:RcV):x.cells.length=14:=rfl
theorem RcV.one (x:RcV): ∀v ∈ x.cells,v.oneCell'=true:=fun v h=>by
 simp only [RcV.cells,List.mem_cons,List.not_mem_nil,or_false] at h
 rcases h with rfl | rfl | rfl | rfl | rfl | rfl | rfl | rfl | rfl | rfl | rfl | rfl | rfl | rfl<;> rfl
structure RcV.ok (w:World) (x:RcV):Prop where
 n1:x.r.path.length<9223372036854775808
 n2:x.r.parts.length<9223372036854775808
 n3:x.r.sp.length<9223372036854775808
 s1:StrsAt w x.a1 x.r.path
 s2:StrsAt w x.a2 x.r.parts
 s3:StrsAt w x.a3 x.r.sp
theorem RcV.ok.later {w w':World} {x:RcV} (h:x.ok w) (hb:Below w.heap.size w w'):x.ok w':=⟨h.n1,h.n2,h.n3,h.s1.later hb,h.s2.later hb,h.s3.later hb⟩
def zeroRc:Rc:=⟨0,0,ByteArray.empty,0,0,0,0,0,0,ByteArray.empty,[],0,[],[]⟩
def zeroRV:RcV:=⟨zeroRc,none,0,none,0,none,0⟩
theorem Tryz.infoRc:(Tryz.prog.info? 47).map (fun i=>(i.zero,i.size,i.bytes))=some (some (.agg zeroRV.cells.toArray),14,176):=by kernel_rfl
theorem rep_unit {α:Type} (L:Nat) (x:α) (f:α→List Value):((List.replicate L ()).flatMap fun _=>f x)=(List.replicate L x).flatMap f:=by
 induction L with
 | zero=>rfl
 | succ L ih=>rw [List.replicate_succ,List.replicate_succ,List.flatMap_cons,List.flatMap_cons,ih]
theorem mk_rcs (L:Nat) (hL:L≤100000) (W:World):(Instr.makeSlice 32 (.int .i64 (L:Int)) (.int .i64 (L:Int))).run Tryz.prog W= .ok (.slice (some ⟨W.heap.size,0,none⟩) L L) (W.alloc (.cells ((List.replicate L zeroRV).flatMap RcV.cells).toArray 47)):=by
 obtain ⟨i0,hi0,hz0,hz1,hz2⟩:=info_parts Tryz.infoRc
 have h:=run_makeSlice (P:= Tryz.prog) (w:=W) 32 47 i0 _ Tryz.underlying32 hi0 hz0 .i64 .i64 (L:Int) (L:Int) (by omega) (by omega) (by rw [hz1];omega) (by rw [hz2];omega) (by omega)
 rw [h,hz1]
 simp only [Int.toNat_natCast]
 have e:madeCells (Value.agg zeroRV.cells.toArray).cells (L*14)=((List.replicate L zeroRV).flatMap RcV.cells).toArray:=by
  rw [← rep_unit]
  exact made_rows zeroRV.cells 14 rfl L
 rw [e]
theorem mk_rows (L:Nat) (hL:L≤100000) {w:World} {b:Nat} (h:w.heap[b]? =some (.cells ((List.replicate L zeroRV).flatMap RcV.cells).toArray 47 (0,0))):RowN RcV.cells 14 47 w b L (List.replicate L zeroRV):=
 ⟨[],by rw [List.append_nil];exact h,by rw [List.length_replicate];exact Nat.le_refl _,by unfold maxLen;omega,by rw [List.append_nil,rw_len RcV.len,List.length_replicate]⟩
end Go.Proofs.YtndlihclgdkpaaaGreatDoor
