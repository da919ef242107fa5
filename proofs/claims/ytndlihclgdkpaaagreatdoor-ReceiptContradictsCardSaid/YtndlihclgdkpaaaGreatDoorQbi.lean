/- slices.Insert of one receipt. -/
import Derived.Lib.Overlaps
import Derived.Lib.AppendZerosOnto
import Derived.Deep.RegionLaw
import Derived.Test.YtndlihclgdkpaaaGreatDoorQba
set_option linter.unusedVariables false
set_option linter.unusedSimpArgs false
open Go.Lib (hid)
set_option maxHeartbeats 4000000
set_option maxRecDepth 100000
namespace Go.Proofs.YtndlihclgdkpaaaGreatDoor
open Go.RowKit
open Kit (Chg)
open Sha (v)
open Go.Proofs.YtndlihclgdkpaaaGreatDoor.One

theorem wpList_copyRun {P:Program} (w:World) {ops:Array Oper} {rest:List Oper} {o:Oper} {a:Act} {Q:Exit→Act→World→Prop} (hgd:o.guard=none) (d s:Operand) (t t':TypeId)
    (ho:o.op= .call { callee:= .builtin .copy,args:= #[d,s],argTypes:= #[t,t'] }) (v u:Value) (hd:a.eval d=v) (hs:a.eval s=u) {v':Value} {w':World}
    (hr:(Builtin.copy_ #[t,t'] o.type #[v,u]).run P w= .ok v' w') (h:wpList P ops Q rest (a.put o.dst v') w'):wpList P ops Q (o::rest) a w:=
 wpList_plain hgd fun _ hK=>by
  unfold Oper.wp execOp
  simp only [ho,resolve,invoke,builtin,Sem.run_bind,Sem.run_pure,Result.andThen_ok,List.map_toArray,List.map_cons,List.map_nil,hd,hs,hr]
  exact hK _ _ h
theorem step_copyRun {P:Program} {ops:Array Oper} {o:Oper} {a:Act} {w:World} {K:Act→World→Prop} {Q:Exit→Act→World→Prop} {E:Prop}
    (hg:o.guard=none) (d x:Operand) (dT sT:TypeId) (hop:o.op=Op.call { callee:=Callee.builtin Builtin.copy,args:= #[d,x],argTypes:= #[dT,sT] })
    (v u:Value) (hd:a.eval d=v) (hx:a.eval x=u) {v':Value} {w':World} (hr:(Builtin.copy_ #[dT,sT] o.type #[v,u]).run P w= .ok v' w') (hK:K (a.put o.dst v') w'):
    if Region.wanted o (yielded ops a.tmps)=true then Oper.wp P o a w K Q else E:=by
 have hw:Region.wanted o (yielded ops a.tmps)=true:=by simp [Region.wanted,hg]
 rw [if_pos hw]
 unfold Oper.wp
 simp [execOp,hop,resolve,invoke,builtin,hd,hx,hr,Result.andThen]
 exact hK
theorem shape_of_row {w:World} {b:Nat} {cs:Array Value} {T:TypeId} {f:Nat × Nat} (h:w.heap[b]? =some (.cells cs T f)):w.shape? b=some (T,cs.size):=by
 unfold World.shape?
 rw [h]
theorem Tryz.sizeRc:(Tryz.prog.info? 47).map (·.size)=some 14:=by
 obtain ⟨i0,hi0,hz0,hz1,hz2⟩:=info_parts Tryz.infoRc
 rw [hi0]
 simp [hz1]
theorem ins_lists {α:Type} {A D R X:List α} {m k n:Nat} (hA:A.length=m) (hk:k≤(D++R).length) (hX:X.length=k) (hD:D.length=n):
    ((A++D++R).take (m+k)++D++(A++D++R).drop (m+k+n)).take m++X++((A++D++R).take (m+k)++D++(A++D++R).drop (m+k+n)).drop (m+k)=A++X++D++R.drop k:=by
 have h1:(A++D++R).take (m+k)=A++(D++R).take k:=by rw [List.append_assoc,← hA,List.take_length_add_append]
 have h2:(A++D++R).drop (m+k+n)=R.drop k:=by
  rw [List.drop_append,List.drop_eq_nil_of_le (by rw [List.length_append];omega),List.nil_append,List.length_append,hA,hD,show m+k+n - (m+n)=k by omega]
 have h3:((D++R).take k).length=k:=by rw [List.length_take];omega
 rw [h1,h2]
 have h4:(A++(D++R).take k++D++R.drop k).take m=A:=by rw [List.append_assoc,List.append_assoc,← hA,List.take_left]
 have h5:(A++(D++R).take k++D++R.drop k).drop (m+k)=D++R.drop k:=by
  rw [List.append_assoc,List.drop_append,List.drop_eq_nil_of_le (by rw [List.length_append,h3];omega),List.nil_append,List.length_append,h3,hA,Nat.sub_self,List.drop_zero]
 rw [h4,h5]
 simp only [List.append_assoc]
theorem insert_room (g cap n i vb:Nat) (xs:List RcV) (x:RcV) (hn:xs.length=n) (hi:i<n) (hroom:n+1≤cap) (hn2:n≤1000000) (w:World) (hR:RowN RcV.cells 14 47 w g cap xs) (hvb:vb≠g) (hx:w.heap[vb]? =some (.cells x.cells.toArray 47 (0,0))):
    Calls Tryz.prog 133 #[.slice (some ⟨g,0,none⟩) n cap,.int .i64 (i:Int),.slice (some ⟨vb,0,none⟩) 1 1] w fun e w'=>e= .returned (.slice (some ⟨g,0,none⟩) (n+1) cap)∧RowN RcV.cells 14 47 w' g cap (xs.take i++x::xs.drop i)∧Chg (fun q _=>q=g) w w':=by
 obtain ⟨rest,hg,hxc,hcm,hlen⟩:=hR
 have hA:(rcv (xs.take i)).length=i*14:=by rw [rcv_len,List.length_take,Nat.min_eq_left (by omega)]
 have hD:(rcv (xs.drop i)).length=(n - i)*14:=by rw [rcv_len,List.length_drop,hn]
 have hAD:rcv xs=rcv (xs.take i)++rcv (xs.drop i):=by rw [← rcv_app,List.take_append_drop]
 have hg0:w.heap[g]? =some (.cells (rcv xs++rest).toArray 47 (0,0)):=hg
 have hlen0:(rcv xs++rest).length=cap*14:=hlen
 rw [hAD] at hg0 hlen0
 have hrl:rest.length+n*14=cap*14:=by rw [List.length_append,List.length_append,hA,hD] at hlen0;omega
 obtain ⟨L1,hL1⟩:=ex_eq ((rcv (xs.take i)++rcv (xs.drop i)++rest).take (i*14+14)++rcv (xs.drop i)++(rcv (xs.take i)++rcv (xs.drop i)++rest).drop (i*14+14+(n - i)*14))
 have hL1l:L1.length=cap*14:=by
  rw [← hL1,List.length_append,List.length_append,List.length_take,List.length_drop,hlen0,hD,Nat.min_eq_left (by omega)]
  omega
 have hsrc1: ∀j v,(rcv (xs.drop i))[j]? =some v→w.drew.cell? ((⟨g,i*14,none⟩:Addr).add j)=some v:=fun j v hj=>by
  rw [add_none]
  refine (cell_of_row _ _ _ _ _ _ hg0).trans ?_
  rw [List.getElem?_toArray,List.append_assoc,List.getElem?_append_right (by rw [hA];omega),hA,Nat.add_sub_cancel_left,List.getElem?_append_left (List.getElem?_eq_some_iff.1 hj).1]
  exact hj
 have hcp1: ∀ty dc sc,(Builtin.copy_ #[32, 32] ty #[.slice (some ⟨g,(i+1)*14,none⟩) (n - i) dc,.slice (some ⟨g,i*14,none⟩) (n+1 - i) sc]).run Tryz.prog w.drew= .ok (goInt ((n - i:Nat):Int)) (w.drew.setRow g L1.toArray):=fun ty dc sc=>by
  have h:=run_copy_rowN (P:= Tryz.prog) w.drew 32 32 ty 47 g ((i+1)*14) (n - i) dc ⟨g,i*14,none⟩ (n+1 - i) sc 14 (n - i) _ 47 (rcv (xs.drop i)) Tryz.underlying32 Tryz.sizeRc hg0 (by show min _ _=_;omega) hD hsrc1 (by simp only [List.size_toArray];rw [hlen0,hD];omega) (rcv_one _)
  rw [h]
  congr 3
  rw [← hL1,hD]
  simp only [show (i+1)*14=i*14+14 by omega]
 have hW1:(w.drew.setRow g L1.toArray).heap[g]? =some (.cells L1.toArray 47 (0,0)):=setRow_heap _ _ _ _ _ _ hg0
 have hX1:(w.drew.setRow g L1.toArray).heap[vb]? =some (.cells x.cells.toArray 47 (0,0)):=(setRow_other w.drew g vb _ hvb).trans hx
 have hC1:Chg (fun q _=>q=g) w (w.drew.setRow g L1.toArray):=⟨rfl,rfl,rfl,by simp [World.setRow],fun k hk hn=>setRow_other w.drew g k _ (fun e=>hn 0 e),fun k hn c e f hc=>by
  obtain ⟨j,hj⟩:=hn
  exact ⟨c,(setRow_other w.drew g k _ hj).trans hc,rfl,fun _ _=>rfl⟩⟩
 obtain ⟨W1,hWW1⟩:=ex_eq (w.drew.setRow g L1.toArray)
 rw [hWW1] at hW1 hX1 hC1 hcp1
 have hcp2: ∀ty dc,(Builtin.copy_ #[32, 32] ty #[.slice (some ⟨g,i*14,none⟩) (n+1 - i) dc,.slice (some ⟨vb,0,none⟩) 1 1]).run Tryz.prog W1= .ok (goInt 1) (W1.setRow g (L1.take (i*14)++x.cells++L1.drop (i*14+14)).toArray):=fun ty dc=>by
  have h:=run_copy_rowN (P:= Tryz.prog) W1 32 32 ty 47 g (i*14) (n+1 - i) dc ⟨vb,0,none⟩ 1 1 14 1 _ 47 x.cells Tryz.underlying32 Tryz.sizeRc hW1 (by show min _ _=_;omega) rfl (fun j v hj=>by
   rw [add_none,Nat.zero_add]
   exact (cell_of_row _ _ _ _ _ _ hX1).trans (by rw [List.getElem?_toArray];exact hj)) (by simp only [List.size_toArray,hL1l,RcV.len];omega) x.one
  rw [h]
  rfl
 obtain ⟨L2,hL2⟩:=ex_eq (L1.take (i*14)++x.cells++L1.drop (i*14+14))
 rw [hL2] at hcp2
 have hL2e:L2=rcv (xs.take i++x::xs.drop i)++rest.drop 14:=by
  have h:=ins_lists (A:=rcv (xs.take i)) (D:=rcv (xs.drop i)) (R:=rest) (X:=x.cells) (m:=i*14) (k:=14) (n:=(n - i)*14) hA (by rw [List.length_append,hD];omega) rfl hD
  rw [hL1,hL2] at h
  rw [h,rcv_app]
  show _=rcv (xs.take i)++(x.cells++rcv (xs.drop i))++rest.drop 14
  simp only [List.append_assoc]
 have hW2:(W1.setRow g L2.toArray).heap[g]? =some (.cells L2.toArray 47 (0,0)):=setRow_heap _ _ _ _ _ _ hW1
 have hC2:Chg (fun q _=>q=g) W1 (W1.setRow g L2.toArray):=⟨rfl,rfl,rfl,by simp [World.setRow],fun k hk hn=>setRow_other W1 g k _ (fun e=>hn 0 e),fun k hn c e f hc=>by
  obtain ⟨j,hj⟩:=hn
  exact ⟨c,(setRow_other W1 g k _ hj).trans hc,rfl,fun _ _=>rfl⟩⟩
 obtain ⟨W2,hWW2⟩:=ex_eq (W1.setRow g L2.toArray)
 rw [hWW2] at hW2 hC2 hcp2
 have HFIN:Hid (RowN RcV.cells 14 47 W2 g cap (xs.take i++x::xs.drop i)∧Chg (fun q _=>q=g) w W2):=hid ⟨⟨rest.drop 14,by rw [hL2e] at hW2;exact hW2,by rw [List.length_append,List.length_cons,List.length_take,List.length_drop];omega,hcm,by
  show (rcv (xs.take i++x::xs.drop i)++rest.drop 14).length=_
  rw [List.length_append,rcv_len,List.length_append,List.length_cons,List.length_take,List.length_drop,List.length_drop]
  omega⟩,hC1.trans hC2⟩
 have hov: ∀o lb cb,(callFunc 215 #[.slice (some ⟨vb,0,none⟩) 1 1,.slice (some ⟨g,o,none⟩) lb cb]).run Tryz.prog w= .ok (.value (.bool false)) w:=fun o lb cb=>by
  rw [run_callFunc_extern Tryz.func215 (by kernel_rfl) (by kernel_rfl) (by kernel_rfl) (e:=Extern.SlicesOverlaps.overlaps #[32, 32] #[4]) (by kernel_rfl),
   Lib.run_overlaps_apart w 32 4 47 Tryz.underlying32 14 (fun w=>by kernel_rfl) ⟨vb,0,none⟩ ⟨g,o,none⟩ 1 1 lb cb hvb _ _ _ _ (shape_of_row hx) (shape_of_row hg0) (by rw [List.size_toArray,hlen0];omega) (frozen_of_row _ _ _ _ _ hx) (frozen_of_row _ _ _ _ _ hx)]
  rfl
 have hw1:IntKind.i64.wrap ((i:Int)+1)=(i:Int)+1:=by rw [IntKind.wrap_i64];omega
 have hw2:IntKind.i64.wrap ((n:Int)+1)=(n:Int)+1:=by rw [IntKind.wrap_i64];omega
 have hb1:(0:Int)≤(i:Int)+1:=by omega
 have hb3:(i:Int)≤(n:Int)+1:=by omega
 have hb2: ¬(cap=i+1):=by omega
 have hb4: ¬(cap=i):=by omega
 have hin:i≤n:=by omega
 have hz2: ¬((i:Int)=(n:Int)):=by omega
 have htn:((i:Int)+1).toNat=i+1:=by omega
 have hcap: ¬((cap:Int)<(n:Int)+1):=by omega
 have hc63:cap≤9223372036854775807:=by unfold maxLen at hcm;omega
 clear hA hD hAD hg0 hlen0 hrl hL1 hL1l hsrc1 hW1 hX1 hC1 hWW1 hL2 hL2e hW2 hC2 hWW2 hg hxc hcm hlen
 go_enter Tryz.func133,Tryz.ntmps133
 go_wp2_with (simp only [hov])
 go_region_law (refine step_copyRun rfl _ _ 32 32 rfl _ _ (by simp [Act.eval,Act.put]) (by simp [Act.eval,Act.put]) (hcp1 _ _ _) ?_)
 go_wp2_with (at_builtin;refine wpList_copyRun _ rfl _ _ 32 32 rfl _ _ rfl rfl (hcp2 _ _) ?_)
 go_ret
 exact ⟨rfl,HFIN.o⟩
theorem insert_nil (vb:Nat) (x:RcV) (w:World) (hx:w.heap[vb]? =some (.cells x.cells.toArray 47 (0,0))):
    Calls Tryz.prog 133 #[.slice none 0 0,.int .i64 0,.slice (some ⟨vb,0,none⟩) 1 1] w fun e w'=> ∃bl cap,e= .returned (.slice (some ⟨bl,0,none⟩) 1 cap)∧w.heap.size≤bl∧RowN RcV.cells 14 47 w' bl cap [x]∧Below w.heap.size w w':=by
 have hsrc: ∀j u,x.cells[j]? =some u→w.cell? ((⟨vb,0,none⟩:Addr).add j)=some u:=fun j u hj=>by
  rw [add_none,Nat.zero_add]
  exact (cell_of_row _ _ _ _ _ _ hx).trans (by rw [List.getElem?_toArray];exact hj)
 go_enter Tryz.func133,Tryz.ntmps133
 go_wp2_with (first
  | (at_builtin
     refine app_rc rfl _ _ rfl w.heap.size (.slice none 0 0) 0 [] (by rfl) (World.ownsRow_nil _ _ _ _) (Nat.le_refl _) (by decide) x ⟨vb,0,none⟩ 1 (by rfl) hsrc ?_
     intro bl cap w1 h1 h2 h3
     have H1:=hid h1
     have H2:=hid h2
     have H3:=hid h3
     clear h1 h2 h3))
 go_ret
 obtain ⟨h4,h5⟩:=RowN.of RcV.len H1.o rfl
 exact ⟨bl,cap,rfl,h5,h4,⟨H2.o.os,H2.o.tape,H2.o.output,H2.o.size,fun k hk=>H2.o.block k hk (by simp [Value.ownBlock])⟩⟩
theorem insert_end (g cap n vb:Nat) (xs:List RcV) (x:RcV) (hn:xs.length=n) (hn2:n≤1000000) (w:World) (hR:RowN RcV.cells 14 47 w g cap xs) (hx:w.heap[vb]? =some (.cells x.cells.toArray 47 (0,0))):
    Calls Tryz.prog 133 #[.slice (some ⟨g,0,none⟩) n cap,.int .i64 (n:Int),.slice (some ⟨vb,0,none⟩) 1 1] w fun e w'=> ∃bl cap',e= .returned (.slice (some ⟨bl,0,none⟩) (n+1) cap')∧(bl=g∨w.heap.size≤bl)∧RowN RcV.cells 14 47 w' bl cap' (xs++[x])∧Chg (fun q _=>q=g) w w':=by
 have hsrc: ∀j u,x.cells[j]? =some u→w.cell? ((⟨vb,0,none⟩:Addr).add j)=some u:=fun j u hj=>by
  rw [add_none,Nat.zero_add]
  exact (cell_of_row _ _ _ _ _ _ hx).trans (by rw [List.getElem?_toArray];exact hj)
 have hown:w.ownsRow 0 47 14 (.slice (some ⟨g,0,none⟩) n cap) n (rcv xs):=by
  have h:=hR.own RcV.len (by decide) (Nat.zero_le g)
  rw [hn] at h
  exact h
 have hcap:n≤cap:=by obtain ⟨_,_,h,_⟩:=hR;omega
 have hc63:cap≤9223372036854775807:=by obtain ⟨_,_,_,h,_⟩:=hR;unfold maxLen at h;omega
 have HL:Hid ((xs++[x]).length=n+1):=hid (by rw [List.length_append,hn];rfl)
 clear hR hn
 go_enter Tryz.func133,Tryz.ntmps133
 go_wp2_with (first
  | (at_builtin
     refine app_rc rfl _ _ rfl 0 (.slice (some ⟨g,0,none⟩) n cap) n xs (by rfl) hown (Nat.zero_le _) hn2 x ⟨vb,0,none⟩ 1 (by rfl) hsrc ?_
     intro bl cap' w1 h1 h2 h3
     have H1:=hid h1
     have H2:=hid h2
     have H3:=hid h3
     clear h1 h2 h3))
 all_goals
  go_ret
  obtain ⟨h4,h5⟩:=RowN.of RcV.len H1.o HL.o
  refine ⟨bl,cap',rfl,?_,h4,Chg.of_grown H2.o (fun k i e=> ?_)⟩
  ·rcases H3.o with e | e
   ·injection e with e;exact .inl e
   ·exact .inr (by omega)
  ·injection e with e;exact e.symm
theorem grow_lists {α:Type} {A D Z X:List α} {m k n:Nat} (hA:A.length=m) (hX:X.length=k) (hD:D.length=n) (hZ:k+n≤Z.length):
    (((A++Z).take m++X++(A++Z).drop (m+k)).take (m+k)++D++((A++Z).take m++X++(A++Z).drop (m+k)).drop (m+k+n))=A++X++D++Z.drop (k+n):=by
 have h1:(A++Z).take m=A:=by rw [← hA,List.take_left]
 have h2:(A++Z).drop (m+k)=Z.drop k:=by rw [List.drop_append,List.drop_eq_nil_of_le (by omega),List.nil_append,hA,Nat.add_sub_cancel_left]
 rw [h1,h2]
 have h3:(A++X++Z.drop k).take (m+k)=A++X:=by rw [← hA,← hX,← List.length_append,List.take_left]
 have h4:(A++X++Z.drop k).drop (m+k+n)=Z.drop (k+n):=by
  rw [List.drop_append,List.drop_eq_nil_of_le (by rw [List.length_append];omega),List.nil_append,List.length_append,hA,hX,List.drop_drop]
  congr 1
  omega
 rw [h3,h4]
theorem chg_setRowQ (w:World) (g:Nat) (cs:Array Value):Chg (fun q _=>q=g) w (w.setRow g cs):=⟨rfl,rfl,rfl,by simp [World.setRow],fun k hk hn=>setRow_other w g k _ (fun e=>hn 0 e),fun k hn c e f hc=>by
 obtain ⟨j,hj⟩:=hn
 exact ⟨c,(setRow_other w g k _ hj).trans hc,rfl,fun _ _=>rfl⟩⟩
theorem insert_grow (g n i vb:Nat) (xs:List RcV) (x:RcV) (hn:xs.length=n) (hi:i<n) (hn2:n≤1000000) (w:World) (hR:RowN RcV.cells 14 47 w g n xs) (hx:w.heap[vb]? =some (.cells x.cells.toArray 47 (0,0))):
    Calls Tryz.prog 133 #[.slice (some ⟨g,0,none⟩) n n,.int .i64 (i:Int),.slice (some ⟨vb,0,none⟩) 1 1] w fun e w'=> ∃bl cap',e= .returned (.slice (some ⟨bl,0,none⟩) (n+1) cap')∧w.heap.size≤bl∧RowN RcV.cells 14 47 w' bl cap' (xs.take i++x::xs.drop i)∧Below w.heap.size w w':=by
 obtain ⟨rest,hg,hxc,hcm,hlen⟩:=hR
 obtain ⟨i0,hi0,hz0,hz1,hz2⟩:=info_parts Tryz.infoRc
 have hA:(rcv (xs.take i)).length=i*14:=by rw [rcv_len,List.length_take,Nat.min_eq_left (by omega)]
 have hD:(rcv (xs.drop i)).length=(n - i)*14:=by rw [rcv_len,List.length_drop,hn]
 have hAD:rcv xs=rcv (xs.take i)++rcv (xs.drop i):=by rw [← rcv_app,List.take_append_drop]
 have hg0:w.heap[g]? =some (.cells (rcv xs++rest).toArray 47 (0,0)):=hg
 rw [hAD] at hg0
 have hgw:g<w.heap.size:=(gS hg0).1
 have hvw:vb<w.heap.size:=(gS hx).1
 have hcells: ∀j u,(rcv (xs.take i)++rcv (xs.drop i))[j]? =some u→w.cell? ⟨g,j,none⟩=some u:=fun j u hj=>by
  refine (cell_of_row _ _ _ _ _ _ hg0).trans ?_
  rw [List.getElem?_toArray,List.getElem?_append_left (List.getElem?_eq_some_iff.1 hj).1]
  exact hj
 have hold:(Builtin.firstCells i0.size i (.slice (some ⟨g,0,none⟩) i n)).run Tryz.prog w.drew= .ok (rcv (xs.take i)).toArray w.drew:=by
  have h:=run_loadCells_list (P:= Tryz.prog) w.drew ⟨g,0,none⟩ (rcv (xs.take i)) (fun j u hj=>by
   rw [add_none,Nat.zero_add]
   exact hcells j u (by rw [List.getElem?_append_left (List.getElem?_eq_some_iff.1 hj).1];exact hj))
  rw [hA] at h
  unfold Builtin.firstCells
  rw [hz1]
  exact h
 have hG:=grownCap_ge w (n+1) n 47
 have hG2:=grownCap_le_maxLen w (n+1) n 47 (by unfold maxLen;omega)
 have hrz: ∀ty,(Builtin.append_ #[32,3] ty #[.slice (some ⟨g,0,none⟩) i n,.int .i64 ((n:Int)+1 - (i:Int))]).run Tryz.prog w=
     .ok (.slice (some ⟨w.heap.size,0,none⟩) (n+1) (grownCap w (n+1) n 47)) (w.drew.alloc (.cells ((rcv (xs.take i)).toArray++Builtin.zeroCells (Value.agg zeroRV.cells.toArray).cells (n+1 - i)++Builtin.zeroCells (Value.agg zeroRV.cells.toArray).cells (grownCap w (n+1) n 47 - (n+1))) 47)):=fun ty=>by
  have h:=Lib.run_append_grow_zeros (P:= Tryz.prog) w 32 3 ty 47 i0 _ .i64 .i64 Tryz.underlying32 Tryz.underlying3 hi0 hz0 (some ⟨g,0,none⟩) i n (rcv (xs.take i)) hold (n+1 - i) (by omega) (by rw [hz1];decide) (by omega) (by omega) (by rw [hz2];omega) (by rw [hz2,show i+(n+1 - i)=n+1 by omega];exact growslice_fits (by omega) (by omega))
  rw [show i+(n+1 - i)=n+1 by omega] at h
  rw [show (n:Int)+1 - (i:Int)=((n+1 - i:Nat):Int) by omega]
  exact h
 obtain ⟨G,hGe⟩:=ex_eq (grownCap w (n+1) n 47)
 rw [hGe] at hrz hG hG2
 obtain ⟨Z,hZ⟩:=ex_eq ((Builtin.zeroCells (Value.agg zeroRV.cells.toArray).cells (n+1 - i)).toList++(Builtin.zeroCells (Value.agg zeroRV.cells.toArray).cells (G - (n+1))).toList)
 have hZl:Z.length=(G - i)*14:=by
  rw [← hZ,List.length_append,Array.length_toList,Array.length_toList]
  have e: ∀q,(Builtin.zeroCells (Value.agg zeroRV.cells.toArray).cells q).size=q*14:=fun q=>by
   unfold Builtin.zeroCells
   rw [Array.size_map,Array.size_range]
   rfl
  rw [e,e]
  omega
 have hrow:(rcv (xs.take i)).toArray++Builtin.zeroCells (Value.agg zeroRV.cells.toArray).cells (n+1 - i)++Builtin.zeroCells (Value.agg zeroRV.cells.toArray).cells (G - (n+1))=(rcv (xs.take i)++Z).toArray:=by
  rw [← hZ]
  apply Array.ext'
  simp
 rw [hrow] at hrz
 obtain ⟨N,hN⟩:=ex_eq w.heap.size
 have hW1:(w.drew.alloc (.cells (rcv (xs.take i)++Z).toArray 47)).heap[N]? =some (.cells (rcv (xs.take i)++Z).toArray 47 (0,0)):=by rw [← hN];exact heap_alloc_new _ _
 have hB1:Below N w (w.drew.alloc (.cells (rcv (xs.take i)++Z).toArray 47)):=by rw [← hN];exact ((Below.refl _ _).drew).alloc (Nat.le_refl _) _
 obtain ⟨W1,hWW1⟩:=ex_eq (w.drew.alloc (.cells (rcv (xs.take i)++Z).toArray 47))
 rw [hWW1,hN] at hrz
 rw [hWW1] at hW1 hB1
 have hcpA: ∀ty dc,(Builtin.copy_ #[32, 32] ty #[.slice (some ⟨N,i*14,none⟩) (n+1 - i) dc,.slice (some ⟨vb,0,none⟩) 1 1]).run Tryz.prog W1= .ok (goInt 1) (W1.setRow N ((rcv (xs.take i)++Z).take (i*14)++x.cells++(rcv (xs.take i)++Z).drop (i*14+14)).toArray):=fun ty dc=>by
  have h:=run_copy_rowN (P:= Tryz.prog) W1 32 32 ty 47 N (i*14) (n+1 - i) dc ⟨vb,0,none⟩ 1 1 14 1 _ 47 x.cells Tryz.underlying32 Tryz.sizeRc hW1 (by show min _ _=_;omega) rfl (fun j v hj=>by
   rw [add_none,Nat.zero_add]
   exact (cell_of_row _ _ _ _ _ _ ((hB1.block vb (by omega)).trans hx)).trans (by rw [List.getElem?_toArray];exact hj)) (by simp only [List.size_toArray,List.length_append,hA,hZl,RcV.len];omega) x.one
  rw [h]
  rfl
 obtain ⟨L1,hL1⟩:=ex_eq ((rcv (xs.take i)++Z).take (i*14)++x.cells++(rcv (xs.take i)++Z).drop (i*14+14))
 rw [hL1] at hcpA
 have hL1l:L1.length=G*14:=by
  rw [← hL1,List.length_append,List.length_append,List.length_take,List.length_drop,List.length_append,hA,hZl,RcV.len,Nat.min_eq_left (by omega)]
  omega
 have hW2:(W1.setRow N L1.toArray).heap[N]? =some (.cells L1.toArray 47 (0,0)):=setRow_heap _ _ _ _ _ _ hW1
 have hC2:=chg_setRowQ W1 N L1.toArray
 obtain ⟨W2,hWW2⟩:=ex_eq (W1.setRow N L1.toArray)
 rw [hWW2] at hW2 hC2 hcpA
 have hB2:Below N w W2:=hB1.trans (hC2.below (Nat.le_trans (Nat.le_of_eq hN.symm) hB1.size) (fun k j hk e=>by omega))
 have hcpB: ∀ty dc sc,(Builtin.copy_ #[32, 32] ty #[.slice (some ⟨N,(i+1)*14,none⟩) (n - i) dc,.slice (some ⟨g,i*14,none⟩) (n - i) sc]).run Tryz.prog W2.drew= .ok (goInt ((n - i:Nat):Int)) (W2.drew.setRow N (L1.take (i*14+14)++rcv (xs.drop i)++L1.drop (i*14+14+(n - i)*14)).toArray):=fun ty dc sc=>by
  have h:=run_copy_rowN (P:= Tryz.prog) W2.drew 32 32 ty 47 N ((i+1)*14) (n - i) dc ⟨g,i*14,none⟩ (n - i) sc 14 (n - i) _ 47 (rcv (xs.drop i)) Tryz.underlying32 Tryz.sizeRc hW2 (by show min _ _=_;omega) hD (fun j v hj=>by
   rw [add_none]
   have h0:w.cell? ⟨g,i*14+j,none⟩=some v:=hcells _ _ (by rw [List.getElem?_append_right (by rw [hA];omega),hA,Nat.add_sub_cancel_left];exact hj)
   exact (hB2.cell (p:=⟨g,i*14+j,none⟩) (by show g<N;omega)).trans h0) (by simp only [List.size_toArray,hL1l,hD];omega) (rcv_one _)
  rw [h,hD]
  simp only [show (i+1)*14=i*14+14 by omega]
 obtain ⟨L2,hL2⟩:=ex_eq (L1.take (i*14+14)++rcv (xs.drop i)++L1.drop (i*14+14+(n - i)*14))
 rw [hL2] at hcpB
 have hW3:(W2.drew.setRow N L2.toArray).heap[N]? =some (.cells L2.toArray 47 (0,0)):=setRow_heap _ _ _ _ _ _ hW2
 have hC3:=chg_setRowQ W2.drew N L2.toArray
 obtain ⟨W3,hWW3⟩:=ex_eq (W2.drew.setRow N L2.toArray)
 rw [hWW3] at hW3 hC3 hcpB
 have hB3:Below N w W3:=hB2.trans ((Below.refl _ _).drew.trans (hC3.below (Nat.le_trans (Nat.le_of_eq hN.symm) hB2.size) (fun k j hk e=>by omega)))
 have hL2e:L2=rcv (xs.take i++x::xs.drop i)++Z.drop (14+(n - i)*14):=by
  have h:=grow_lists (A:=rcv (xs.take i)) (D:=rcv (xs.drop i)) (Z:=Z) (X:=x.cells) (m:=i*14) (k:=14) (n:=(n - i)*14) hA rfl hD (by rw [hZl];omega)
  rw [hL1,hL2] at h
  rw [h,rcv_app]
  show _=rcv (xs.take i)++(x.cells++rcv (xs.drop i))++_
  simp only [List.append_assoc]
 have HFIN:Hid (RowN RcV.cells 14 47 W3 N G (xs.take i++x::xs.drop i)∧Below N w W3):=hid ⟨⟨Z.drop (14+(n - i)*14),by rw [hL2e] at hW3;exact hW3,by rw [List.length_append,List.length_cons,List.length_take,List.length_drop];omega,hG2,by
  show (rcv (xs.take i++x::xs.drop i)++Z.drop (14+(n - i)*14)).length=_
  rw [List.length_append,rcv_len,List.length_append,List.length_cons,List.length_take,List.length_drop,List.length_drop,hZl]
  omega⟩,hB3⟩
 have hw1:IntKind.i64.wrap ((i:Int)+1)=(i:Int)+1:=by rw [IntKind.wrap_i64];omega
 have hw2:IntKind.i64.wrap ((n:Int)+1)=(n:Int)+1:=by rw [IntKind.wrap_i64];omega
 have hw3:IntKind.i64.wrap ((n:Int)+1 - (i:Int))=(n:Int)+1 - (i:Int):=by rw [IntKind.wrap_i64];omega
 have hb1:(0:Int)≤(i:Int)+1:=by omega
 have hb3:(i:Int)≤(n:Int):=by omega
 have hin:i≤n:=by omega
 have hz3: ¬((i:Int)=(n:Int)):=by omega
 have htn:((i:Int)+1).toNat=i+1:=by omega
 have hcap:(n:Int)<(n:Int)+1:=by omega
 have hGi: ¬(G=i):=by omega
 have hGim: ¬(G=i+1):=by omega
 have hci: ¬(n=i):=by omega
 have hG63:G≤9223372036854775807:=by unfold maxLen at hG2;omega
 have hi3:(i:Int)+1≤(n:Int)+1:=by omega
 have HN:=hid hN
 clear hA hD hAD hg0 hgw hvw hcells hold hGe hZ hZl hrow hN hW1 hB1 hWW1 hL1 hL1l hW2 hC2 hWW2 hB2 hL2 hW3 hC3 hWW3 hB3 hL2e hg hxc hcm hlen hi0 hz0 hz1 hz2
 go_enter Tryz.func133,Tryz.ntmps133
 go_wp2_with (first
  | (at_builtin;refine Lib.wpList_append_run _ rfl _ _ _ _ rfl _ _ rfl rfl _ _ (hrz _) ?_)
  | (at_builtin;refine wpList_copyRun _ rfl _ _ 32 32 rfl _ _ rfl rfl (hcpA _ _) ?_))
 go_region_law (refine step_copyRun rfl _ _ 32 32 rfl _ _ (by simp [Act.eval,Act.put]) (by simp [Act.eval,Act.put]) (hcpB _ _ _) ?_)
 go_wp2_with fail
 go_ret
 exact ⟨N,G,rfl,by rw [HN.o];exact Nat.le_refl _,HFIN.o.1,by rw [HN.o];exact HFIN.o.2⟩
end Go.Proofs.YtndlihclgdkpaaaGreatDoor
