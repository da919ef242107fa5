/- Texts Rga, Gsl, Gms, Gmt, Grv, Gso, Gsr, Gfi, Gpm, Gmk, Gml, Gvf, merged. -/
import Derived.Shelf.SlSortCmp.InsertionK
import Derived.Shelf.SlicesE.Reverse
import Derived.Shelf.SlicesE.Clone
import Derived.Test.YtndlihclgdkpaaaGreatDoorGd
import Derived.Test.YtndlihclgdkpaaaGreatDoorGf
import Derived.Test.YtndlihclgdkpaaaGreatDoorGg
/- The document's Merkle trees: Join, Node, Leaf, Split, Root. -/
set_option linter.unusedVariables false
set_option linter.unusedSimpArgs false
open Go.Lib (hid)
set_option maxHeartbeats 2000000
set_option maxRecDepth 100000
namespace Go.Proofs.YtndlihclgdkpaaaGreatDoor
open Go.RowKit
open Kit (Chg)
open Sha (v)
open Go.Proofs.YtndlihclgdkpaaaGreatDoor.One

theorem Tryz.elemS: Tryz.prog.elem 43 =9:=by kernel_rfl
theorem Tryz.sizeOf9' (W:World):(Go.sizeOf 9).run Tryz.prog W= .ok 1 W:=by kernel_rfl
theorem Tryz.elemE: Tryz.prog.elem 111 = 92 :=by kernel_rfl
theorem Tryz.sizeOfE (W:World):(Go.sizeOf 92).run Tryz.prog W= .ok 6 W:=by kernel_rfl
def sub6 (a:Option Addr) (l cap:Nat):Option Addr:=if cap=l then a else a.map (·.add (l*6))
theorem sub6_some {b o l cap:Nat} (h:l<cap):sub6 (some ⟨b,o,none⟩) l cap=some ⟨b,o+l*6,none⟩:=by
 unfold sub6
 rw [if_neg (by omega),Option.map_some,add_none]
theorem sub6_zero {b o cap:Nat}:sub6 (some ⟨b,o,none⟩) 0 cap=some ⟨b,o,none⟩:=by
 unfold sub6
 split
 ·rfl
 ·rw [Option.map_some,add_none];rfl
theorem sliceE_lh (a:Option Addr) (n cap l h:Nat) (hl:l≤h) (hh:h≤cap) (W:World):(Instr.slice 111 (.slice a n cap) (some (.int .i64 (l:Int))) (some (.int .i64 (h:Int))) none).run Tryz.prog W= .ok (.slice (sub6 a l cap) (h - l) (cap - l)) W:=by
 rw [run_slice_lh W 111 _ _ _ (by rw [Tryz.elemE];exact Tryz.underlying111) .i64 .i64 _ _ (by omega) (by omega) (by omega),Tryz.elemE,Tryz.sizeOfE]
 simp [Result.andThen,sliced,sub6]
theorem sliceE_h (a:Option Addr) (n cap h:Nat) (hh:h≤cap) (W:World):(Instr.slice 111 (.slice a n cap) none (some (.int .i64 (h:Int))) none).run Tryz.prog W= .ok (.slice (sub6 a 0 cap) h cap) W:=by
 rw [run_slice_h W 111 _ _ _ (by rw [Tryz.elemE];exact Tryz.underlying111) .i64 _ (by omega) (by omega),Tryz.elemE,Tryz.sizeOfE]
 simp [Result.andThen,sliced,sub6]
theorem sliceE_hm (a:Option Addr) (n cap h:Nat) (hh:h≤cap) (W:World):(Instr.slice 111 (.slice a n cap) none (some (.int .i64 (h:Int))) (some (.int .i64 (h:Int)))).run Tryz.prog W= .ok (.slice (sub6 a 0 h) h h) W:=by
 rw [run_slice_hm W 111 _ _ _ (by rw [Tryz.elemE];exact Tryz.underlying111) .i64 .i64 _ _ (by omega) (by omega) (by omega),Tryz.elemE,Tryz.sizeOfE]
 simp [Result.andThen,sliced,sub6]
theorem sliceS_hm (a:Option Addr) (n cap h:Nat) (hh:h≤cap) (W:World):(Instr.slice 43 (.slice a n cap) none (some (.int .i64 (h:Int))) (some (.int .i64 (h:Int)))).run Tryz.prog W= .ok (.slice (subA a 0 h) h h) W:=by
 rw [run_slice_hm W 43 _ _ _ (by rw [Tryz.elemS];exact Tryz.underlying43) .i64 .i64 _ _ (by omega) (by omega) (by omega),Tryz.elemS,Tryz.sizeOf9']
 simp [Result.andThen,sliced,subA]
theorem subA_zero {b o cap:Nat}:subA (some ⟨b,o,none⟩) 0 cap=some ⟨b,o,none⟩:=by
 unfold subA
 split
 ·rfl
 ·rw [Option.map_some,add_none];rfl
theorem ents_sub {w:World} {a:Option Addr} {es:List Ent} {cap:Nat} (h:EntsAt w a es) (hc:es.length≤cap) (l k:Nat):EntsAt w (sub6 a l cap) ((es.take k).drop l):=by
 by_cases h0:(es.take k).drop l=[]
 ·exact .inl h0
 ·have h1:=List.length_pos_iff.2 h0
  rw [List.length_drop,List.length_take] at h1
  rcases h with h | ⟨b,o,rfl,hcell⟩
  ·rw [h] at h1;simp at h1
  ·refine .inr ⟨b,o+l*6,sub6_some (by omega),fun i hi=> ?_⟩
   rw [List.length_drop,List.length_take] at hi
   have h2:=hcell (l+i) (by omega)
   rw [show o+l*6+i*6=o+(l+i)*6 by omega]
   have e:((es.take k).drop l)[i]'(by rw [List.length_drop,List.length_take];omega)=es[l+i]'(by omega):=by simp
   rw [e]
   exact h2
theorem run_app_full (w0:World) (ty:TypeId) (b:Addr) (n:Nat) (ys:List EV) (hy:ys.length=n) (hold: ∀j u,(evs ys)[j]? =some u→w0.cell? (b.add j)=some u) (hn:n≤1000000)
    (ad:Addr) (m c:Nat) (zs:List EV) (hm:zs.length=m) (hm2:m≤1000000) (hm0:0<m) (hnew: ∀j u,(evs zs)[j]? =some u→w0.cell? (ad.add j)=some u):
    ∃cap w',(Builtin.append_ #[111, 111] ty #[.slice (some b) n n,.slice (some ad) m c]).run Tryz.prog w0= .ok (.slice (some ⟨w0.heap.size,0,none⟩) (n+m) cap) w'∧w'.ownsRow w0.heap.size 92 6 (.slice (some ⟨w0.heap.size,0,none⟩) (n+m) cap) (n+m) (evs (ys++zs))∧Below w0.heap.size w0 w':=by
 obtain ⟨i0,hi,hz0,hz1,hz2⟩:=info_parts Tryz.infoEnt
 have hr:=run_append_grow (P:= Tryz.prog) w0 111 ty 92 i0 _ Tryz.underlying111 hi hz0 b n n (evs ys) (by rw [evs_len,hy,hz1]) hold ad m c (evs zs) (by rw [evs_len,hm,hz1]) hnew (by omega) (by omega) (by rw [hz2];exact growslice_fits (by omega) (by omega))
 have hge:=grownCap_ge w0 (n+m) n 92
 have hcm:grownCap w0 (n+m) n 92 ≤maxLen:=grownCap_le_maxLen w0 (n+m) n 92 (by unfold maxLen;omega)
 refine ⟨_,_,hr,⟨by rw [evs_len,List.length_append,hy,hm],.inr ⟨w0.heap.size,_,_,rfl,Nat.le_refl _,heap_alloc_new w0.drew _,hge,hcm,?_,?_⟩⟩,((Below.refl _ _).drew).alloc (Nat.le_refl _) _⟩
 ·simp only [Array.size_append,List.size_toArray,size_zeroCells,evs_len,hy,hm]
  show n*6+m*6+_*6=_
  omega
 ·simp only [Array.toList_append,List.append_assoc]
  rw [← List.append_assoc,← evs_app]
  exact List.take_left' (by rw [evs_len,List.length_append,hy,hm])
theorem run_appS_full (w0:World) (ty:TypeId) (b:Addr) (n:Nat) (ys:List ByteArray) (hy:ys.length=n) (hold: ∀j u,(strV ys)[j]? =some u→w0.cell? (b.add j)=some u) (hn:n≤1000000)
    (ad:Addr) (m c:Nat) (zs:List ByteArray) (hm:zs.length=m) (hm2:m≤1000000) (hm0:0<m) (hnew: ∀j u,(strV zs)[j]? =some u→w0.cell? (ad.add j)=some u):
    ∃cap w',(Builtin.append_ #[43, 43] ty #[.slice (some b) n n,.slice (some ad) m c]).run Tryz.prog w0= .ok (.slice (some ⟨w0.heap.size,0,none⟩) (n+m) cap) w'∧w'.ownsRow w0.heap.size 9 1 (.slice (some ⟨w0.heap.size,0,none⟩) (n+m) cap) (n+m) (strV (ys++zs))∧Below w0.heap.size w0 w':=by
 obtain ⟨i0,hi,hz0,hz1,hz2⟩:=info_parts Tryz.info9
 have hr:=run_append_grow (P:= Tryz.prog) w0 43 ty 9 i0 _ Tryz.underlying43 hi hz0 b n n (strV ys) (by rw [strV_length,hy,hz1,Nat.mul_one]) hold ad m c (strV zs) (by rw [strV_length,hm,hz1,Nat.mul_one]) hnew (by omega) (by omega) (by rw [hz2];exact growslice_fits (by omega) (by omega))
 have hge:=grownCap_ge w0 (n+m) n 9
 have hcm:grownCap w0 (n+m) n 9≤maxLen:=grownCap_le_maxLen w0 (n+m) n 9 (by unfold maxLen;omega)
 have happ:strV (ys++zs)=strV ys++strV zs:=by simp [strV]
 refine ⟨_,_,hr,⟨by rw [strV_length,List.length_append,hy,hm,Nat.mul_one],.inr ⟨w0.heap.size,_,_,rfl,Nat.le_refl _,heap_alloc_new w0.drew _,hge,hcm,?_,?_⟩⟩,((Below.refl _ _).drew).alloc (Nat.le_refl _) _⟩
 ·simp only [Array.size_append,List.size_toArray,size_zeroCells,strV_length,hy,hm]
  show n+m+_*1=_
  omega
 ·simp only [Array.toList_append,List.append_assoc]
  rw [← List.append_assoc,← happ]
  exact List.take_left' (by rw [strV_length,List.length_append,hy,hm,Nat.mul_one])
theorem neg_any (z:Nat) (w:World):Calls Tryz.prog 145 #[.int .i64 (z:Int)] w fun e w'=>e= .returned (.bool false)∧w=w':=by
 have h0: ¬(z:Int)<0:=by omega
 go_enter Tryz.func145,Tryz.ntmps145
 go_wp2
 go_ret
 first | exact ⟨rfl,rfl⟩ | simp
theorem indexNeg_any (a:Option Addr) (c L:Nat) (zs:List Nat) (hLe:zs.length=L) (hL:L≤1000000) (w:World) (h:IntsAt w a zs):Calls Tryz.prog 219 #[.slice a L c,.func (.func 145) #[] #[]] w fun e w'=>e= .returned (.int .i64 (-1))∧w=w':=by
 have HI:=hid h
 have HLE:=hid hLe
 clear h hLe
 go_enter Tryz.func219,Tryz.ntmps219
 go_upto_region 2 with fail
 go_loopw [8] (fun z wr=> ∃k:Nat,k≤L∧z= .int .i64 (k:Int)∧wr=w) (fun z _=>L - (intOf z).toNat)
 case atStart=>exact ⟨0,by omega,rfl,rfl⟩
 case round=>
  obtain ⟨k,hk,rfl,rfl⟩:=hrel
  by_cases hlt:k<L
  ·have hki:(k:Int)<(L:Int):=by omega
   obtain ⟨b0,o0,rfl,hc⟩: ∃b o,a=some ⟨b,o,none⟩∧ ∀i,i<zs.length→wr.cell? ⟨b,o+i,none⟩=some (.int .i64 ((zs.getD i 0:Nat):Int)):=by
    rcases HI.o with h | h
    ·have:=HLE.o;rw [h] at this;simp at this;omega
    ·exact h
   have hck:=hc k (by rw [HLE.o];exact hlt)
   obtain ⟨z,hz⟩:=ex_eq (zs.getD k 0)
   rw [hz] at hck
   clear hc hz
   go_wp2_with (first
    | (go_at_call 145
       (with_reducible refine (neg_any z _).mono ?_)
       rintro e w2 ⟨rfl,rfl⟩))
   go_roundw
   case rel=>exact ⟨k+1,hlt,by go_num,trivial⟩
   case measure=>simp [intOf];omega
  ·have hki: ¬(k:Int)<(L:Int):=by omega
   go_wp2_with fail
   go_ret
   first | exact ⟨rfl,rfl⟩ | trivial
theorem containsNeg_any (a:Option Addr) (c L:Nat) (zs:List Nat) (hLe:zs.length=L) (hL:L≤1000000) (w:World) (h:IntsAt w a zs):Calls Tryz.prog 144 #[.slice a L c,.func (.func 145) #[] #[]] w fun e w'=>e= .returned (.bool false)∧w=w':=by
 have HI:=hid (indexNeg_any a c L zs hLe hL w h)
 clear h hLe
 go_enter Tryz.func144,Tryz.ntmps144
 go_wp2_with (first
  | (go_at_call 219
     (with_reducible refine HI.o.mono ?_)
     rintro e w2 ⟨rfl,rfl⟩))
 go_ret
 first | exact ⟨rfl,rfl⟩ | trivial
def partE (ls:List Lin) (zs:List Nat) (i:Nat):List Ent:=match ls[i]? with
 | some l=>if zs.getD i 0<l.sealed' then (l.log.take l.sealed').drop (zs.getD i 0) else []
 | none=>[]
def partH (ls:List Lin) (zs:List Nat) (i:Nat):List Hd:=match ls[i]? with
 | some l=>if zs.getD i 0<l.sealed' then [l.head] else []
 | none=>[]
def missE (ls:List Lin) (zs:List Nat) (k:Nat):List Ent:=(List.range k).flatMap (partE ls zs)
def missH (ls:List Lin) (zs:List Nat) (k:Nat):List Hd:=(List.range k).flatMap (partH ls zs)
theorem missE_succ (ls:List Lin) (zs:List Nat) (k:Nat):missE ls zs (k+1)=missE ls zs k++partE ls zs k:=by
 unfold missE
 rw [List.range_succ,List.flatMap_append]
 simp
theorem missH_succ (ls:List Lin) (zs:List Nat) (k:Nat):missH ls zs (k+1)=missH ls zs k++partH ls zs k:=by
 unfold missH
 rw [List.range_succ,List.flatMap_append]
 simp
theorem partE_len (ls:List Lin) (zs:List Nat) (i M:Nat) (h: ∀l ∈ ls,l.log.length≤M):(partE ls zs i).length≤M:=by
 unfold partE
 split
 ·rename_i l hl
  split
  ·rw [List.length_drop,List.length_take]
   have:=h l (List.mem_of_getElem? hl)
   omega
  ·simp
 ·simp
theorem missE_len (ls:List Lin) (zs:List Nat) (M:Nat) (h: ∀l ∈ ls,l.log.length≤M): ∀k,(missE ls zs k).length≤M*k
 | 0=>by simp [missE]
 | k+1=>by
   rw [missE_succ,List.length_append,Nat.mul_succ]
   have h1:=missE_len ls zs M h k
   have h2:=partE_len ls zs k M h
   omega
theorem missH_len (ls:List Lin) (zs:List Nat): ∀k,(missH ls zs k).length≤k
 | 0=>by simp [missH]
 | k+1=>by
   rw [missH_succ,List.length_append]
   have h1:=missH_len ls zs k
   have h2:(partH ls zs k).length≤1:=by
    unfold partH
    split
    ·split<;> simp
    ·simp
   omega
def NewH (w:World) (B:Nat) (x:HV):Prop:=StrsAt w x.a1 x.h.ps∧StrsAt w x.a2 x.h.qs∧(∀ad,x.a1=some ad→B≤ad.block)∧ ∀ad,x.a2=some ad→B≤ad.block
theorem NewH.later {w w':World} {B:Nat} {x:HV} (h:NewH w B x) (hb:Below w.heap.size w w'):NewH w' B x:=⟨h.1.later hb,h.2.1.later hb,h.2.2⟩
theorem Tryz.infoHead:(Tryz.prog.info? 94).map (fun i=>(i.zero,i.size,i.bytes))=some (some (.agg #[.int .i64 0,.int .i64 0,.string ByteArray.empty,.int .i64 0,.slice none 0 0,.slice none 0 0]),6,88):=by kernel_rfl
theorem hvs_len (l:List HV):(hvs l).length=l.length*6:=sixes_len (fun _=>rfl) l
theorem hvs_one (l:List HV): ∀v ∈ hvs l,v.oneCell'=true:=sixes_one HV.one l
theorem hvs_app (l m:List HV):hvs (l++m)=hvs l++hvs m:=sixes_app l m
section
variable {ops:Array Oper} {rest:List Oper} {o:Oper} {a:Act} {Q:Exit→Act→World→Prop}
theorem app_headAt {w0:World} (hgd:o.guard=none) (s x:Operand) (ho:o.op= .call { callee:= .builtin .append,args:= #[s,x],argTypes:= #[112, 112] })
    (base:Nat) (v:Value) (L:Nat) (xs:List HV) (hs:a.eval s=v) (hown:w0.ownsRow base 94 6 v L (hvs xs)) (hb:base≤w0.heap.size) (hL:L≤1000000)
    (y:HV) {x0 x1 x2 x3 x4 x5:Value} (hy:y.cells=[x0,x1,x2,x3,x4,x5]) (c:Nat) (hx:a.eval x= .slice (some ⟨w0.heap.size,0,none⟩) 1 c)
    (h: ∀bl cap w',w'.ownsRow base 94 6 (.slice (some ⟨bl,0,none⟩) (L+1) cap) (L+1) (hvs (xs++[y]))→(w0.alloc (.cells #[x0,x1,x2,x3,x4,x5] 94)).grownBy w' v.ownBlock→(some bl=v.ownBlock∨bl=w0.heap.size+1)→wpList Tryz.prog ops Q rest (a.put o.dst (.slice (some ⟨bl,0,none⟩) (L+1) cap)) w'):wpList Tryz.prog ops Q (o::rest) a (w0.alloc (.cells #[x0,x1,x2,x3,x4,x5] 94)):=by
 obtain ⟨i0,hi,hz0,hz1,hz2⟩:=info_parts Tryz.infoHead
 have hy1:hvs [y]=[x0,x1,x2,x3,x4,x5]:=by unfold hvs sixes sixes;rw [hy];rfl
 refine wpList_append_own_at _ hgd s x 112 ho base 94 i0 _ 6 88 Tryz.underlying112 hi hz0 hz1 hz2 rfl (by decide) v L (hvs xs) hs (hown.alloc _) ⟨w0.heap.size,0,none⟩ 1 c (hvs [y]) hx (hvs_len _) (fun j u hu=>by rw [add_none];rw [hy1] at hu;exact cells_new_at _ _ _ j u hu) (hvs_one _) (by unfold maxLen;omega) (by omega) (by simp;omega) ?_
 intro v' w4 hown4 hgr4 _ hat
 obtain ⟨bl,cap,rfl⟩:=own_some hown4 (Nat.succ_pos _)
 refine h bl cap w4 (by rw [hvs_app];exact hown4) hgr4 ?_
 rcases hat with h | h
 ·exact .inl h
 ·injection h with h
  exact .inr (by simpa using h)
end
structure Got (w:World) (M:Nat) (v7 v8:Value) (xs:List EV) (ys:List HV):Prop where
 es:w.ownsRow M 92 6 v7 xs.length (evs xs)
 hs:w.ownsRow M 94 6 v8 ys.length (hvs ys)
 ne: ∀x ∈ xs,NewE w M x
 nh: ∀y ∈ ys,NewH w M y
 ae: ∀x ∈ xs,x.e.body≠[]→ ∀ad,x.a=some ad→some ad.block≠v7.ownBlock∧some ad.block≠v8.ownBlock
 a1: ∀y ∈ ys,y.h.ps≠[]→ ∀ad,y.a1=some ad→some ad.block≠v7.ownBlock∧some ad.block≠v8.ownBlock
 a2: ∀y ∈ ys,y.h.qs≠[]→ ∀ad,y.a2=some ad→some ad.block≠v7.ownBlock∧some ad.block≠v8.ownBlock
theorem NewE.chg {w w':World} {B:Nat} {x:EV} {M:Nat→Nat→Prop} (h:NewE w B x) (hc:Chg M w w') (hM:x.e.body≠[]→ ∀ad,x.a=some ad→ ∀i,¬M ad.block i):NewE w' B x:=⟨h.1,bytes_ne h.2.1 hc hM,h.2.2⟩
theorem NewH.chg {w w':World} {B:Nat} {x:HV} {M:Nat→Nat→Prop} (h:NewH w B x) (hc:Chg M w w') (h1:x.h.ps≠[]→ ∀ad,x.a1=some ad→ ∀i,¬M ad.block i) (h2:x.h.qs≠[]→ ∀ad,x.a2=some ad→ ∀i,¬M ad.block i):NewH w' B x:=
 ⟨h.1.keep hc (fun ad e h0 i=>h1 (fun hz=>by rw [hz] at h0;simp at h0) ad e i),h.2.1.keep hc (fun ad e h0 i=>h2 (fun hz=>by rw [hz] at h0;simp at h0) ad e i),h.2.2⟩
theorem Got.later {w w':World} {M:Nat} {v7 v8:Value} {xs:List EV} {ys:List HV} (h:Got w M v7 v8 xs ys) (hb:Below w.heap.size w w'):Got w' M v7 v8 xs ys:=
 ⟨own_later h.es hb,own_later h.hs hb,fun x hx=>(h.ne x hx).later hb,fun y hy=>(h.nh y hy).later hb,h.ae,h.a1,h.a2⟩
theorem StrsAt.blk {w:World} {a:Option Addr} {ss:List ByteArray} (h:StrsAt w a ss): ∀ad,a=some ad→ss≠[]→ad.block<w.heap.size:=fun ad e hne=>by
 rcases h with h | ⟨b,o,e2,hc⟩
 ·exact absurd h hne
 ·rw [e2] at e
  cases e
  exact World.block_lt_of_cell? w _ (hc 0 (List.length_pos_iff.2 hne))
theorem Got.putE {w w':World} {M bl n cap:Nat} {v7 v8:Value} {xs zs:List EV} {ys:List HV} (h:Got w M v7 v8 xs ys) (hn:n=(xs++zs).length) (ho:w'.ownsRow M 92 6 (.slice (some ⟨bl,0,none⟩) n cap) n (evs (xs++zs))) (hg:w.grownBy w' v7.ownBlock) (hat:some bl=v7.ownBlock∨bl=w.heap.size)
    (hz: ∀z ∈ zs,NewE w M z) (hza: ∀z ∈ zs,z.e.body≠[]→ ∀ad,z.a=some ad→some ad.block≠v7.ownBlock∧some ad.block≠v8.ownBlock):Got w' M (.slice (some ⟨bl,0,none⟩) n cap) v8 (xs++zs) ys:=by
 subst hn
 have hc:Chg (fun q _=>some q=v7.ownBlock) w w':=Chg.of_grown hg (fun q _ e=>e.symm)
 have hne: ∀q,some q≠v7.ownBlock→q<w.heap.size→some q≠(Value.slice (some ⟨bl,0,none⟩) (xs++zs).length cap).ownBlock:=fun q h1 h2 e=>by
  have e2:q=bl:=Option.some.inj e
  rcases hat with h3 | h3
  ·exact h1 (by rw [e2];exact h3)
  ·omega
 have hall: ∀x ∈ xs++zs,NewE w M x∧(x.e.body≠[]→ ∀ad,x.a=some ad→some ad.block≠v7.ownBlock∧some ad.block≠v8.ownBlock):=fun x hx=>by
  rcases List.mem_append.1 hx with h1 | h1
  ·exact ⟨h.ne x h1,h.ae x h1⟩
  ·exact ⟨hz x h1,hza x h1⟩
 refine ⟨ho,ownsRow_keepM h.hs hc (fun q hq i e=>rows_apart h.hs h.es (by decide) hq e),fun x hx=>(hall x hx).1.chg hc (fun hb ad e i hm=>((hall x hx).2 hb ad e).1 hm),fun y hy=>(h.nh y hy).chg hc (fun hb ad e i hm=>(h.a1 y hy hb ad e).1 hm) (fun hb ad e i hm=>(h.a2 y hy hb ad e).1 hm),fun x hx hb ad e=>⟨hne _ ((hall x hx).2 hb ad e).1 ((hall x hx).1.2.1.blk ad e hb),((hall x hx).2 hb ad e).2⟩,fun y hy hb ad e=>⟨hne _ (h.a1 y hy hb ad e).1 ((h.nh y hy).1.blk ad e hb),(h.a1 y hy hb ad e).2⟩,fun y hy hb ad e=>⟨hne _ (h.a2 y hy hb ad e).1 ((h.nh y hy).2.1.blk ad e hb),(h.a2 y hy hb ad e).2⟩⟩
theorem Got.putH {w w':World} {M bl n cap:Nat} {v7 v8:Value} {xs:List EV} {ys:List HV} {z:HV} {o:Obj} (h:Got w M v7 v8 xs ys) (hn:n=ys.length) (ho:w'.ownsRow M 94 6 (.slice (some ⟨bl,0,none⟩) (n+1) cap) (n+1) (hvs (ys++[z]))) (hg:(w.alloc o).grownBy w' v8.ownBlock) (hat:some bl=v8.ownBlock∨bl=w.heap.size+1)
    (hz:NewH w M z) (hz1:z.h.ps≠[]→ ∀ad,z.a1=some ad→some ad.block≠v7.ownBlock∧some ad.block≠v8.ownBlock) (hz2:z.h.qs≠[]→ ∀ad,z.a2=some ad→some ad.block≠v7.ownBlock∧some ad.block≠v8.ownBlock):Got w' M v7 (.slice (some ⟨bl,0,none⟩) (n+1) cap) xs (ys++[z]):=by
 subst hn
 have hc:Chg (fun q _=>some q=v8.ownBlock) w w':=(Chg.alloc1 w o).trans (Chg.of_grown hg (fun q _ e=>e.symm))
 have hne: ∀q,some q≠v8.ownBlock→q<w.heap.size→some q≠(Value.slice (some ⟨bl,0,none⟩) (ys.length+1) cap).ownBlock:=fun q h1 h2 e=>by
  have e2:q=bl:=Option.some.inj e
  rcases hat with h3 | h3
  ·exact h1 (by rw [e2];exact h3)
  ·omega
 have hall: ∀y ∈ ys++[z],NewH w M y∧(y.h.ps≠[]→ ∀ad,y.a1=some ad→some ad.block≠v7.ownBlock∧some ad.block≠v8.ownBlock)∧(y.h.qs≠[]→ ∀ad,y.a2=some ad→some ad.block≠v7.ownBlock∧some ad.block≠v8.ownBlock):=fun y hy=>by
  rcases List.mem_append.1 hy with h1 | h1
  ·exact ⟨h.nh y h1,h.a1 y h1,h.a2 y h1⟩
  ·rw [List.mem_singleton] at h1
   subst h1
   exact ⟨hz,hz1,hz2⟩
 refine ⟨ownsRow_keepM h.es hc (fun q hq i e=>rows_apart h.es h.hs (by decide) hq e),by rw [List.length_append,List.length_singleton];exact ho,fun x hx=>(h.ne x hx).chg hc (fun hb ad e i hm=>(h.ae x hx hb ad e).2 hm),fun y hy=>(hall y hy).1.chg hc (fun hb ad e i hm=>((hall y hy).2.1 hb ad e).2 hm) (fun hb ad e i hm=>((hall y hy).2.2 hb ad e).2 hm),fun x hx hb ad e=>⟨(h.ae x hx hb ad e).1,hne _ (h.ae x hx hb ad e).2 ((h.ne x hx).2.1.blk ad e hb)⟩,fun y hy hb ad e=>⟨((hall y hy).2.1 hb ad e).1,hne _ ((hall y hy).2.1 hb ad e).2 ((hall y hy).1.1.blk ad e hb)⟩,fun y hy hb ad e=>⟨((hall y hy).2.2 hb ad e).1,hne _ ((hall y hy).2.2 hb ad e).2 ((hall y hy).1.2.1.blk ad e hb)⟩⟩
end Go.Proofs.YtndlihclgdkpaaaGreatDoor
namespace Go.Proofs.YtndlihclgdkpaaaGreatDoor
open Go.RowKit
open Kit (Chg)
open Go.Proofs.YtndlihclgdkpaaaGreatDoor.One

instance:Inhabited Ent:=⟨⟨0,0,0,0,[],ByteArray.empty⟩⟩
instance:Inhabited EV:=⟨⟨default,none,0⟩⟩
instance:Inhabited Hd:=⟨Hd.zero⟩
instance:Inhabited HV:=⟨hvZero⟩
theorem flat_sixes {α:Type} [Inhabited α] {f:α→List Value} (hf: ∀x,(f x).length=6) (ys:List α):(Sort.flatK f 6 ys.toArray).toList=sixes f ys:=by
 refine List.ext_getElem? fun t=> ?_
 by_cases ht:t<ys.length*6
 ·have h1:t/6<ys.length:=by omega
  have h2:t % 6<6:=by omega
  have h3:t=t/6*6+t % 6:=by omega
  have e1:=sixes_get hf ys (t/6) h1 (t % 6) h2
  rw [← h3] at e1
  rw [e1]
  have hs:t<(Sort.flatK f 6 ys.toArray).size:=by rw [Sort.size_flatK];simpa using ht
  have e2:=Sort.get_flatK f 6 ys.toArray t (by simpa using ht)
  rw [getElem!_pos _ t hs] at e2
  rw [Array.getElem?_toList,Array.getElem?_eq_getElem hs,e2]
  have h4:t % 6<(f ys[t/6]).length:=by rw [hf];exact h2
  rw [lE h4]
  congr 1
  rw [getElem!_pos ys.toArray (t/6) (by simpa using h1)]
  simp only [List.getElem_toArray]
  exact getElem!_pos (f ys[t/6]) (t % 6) h4
 ·rw [List.getElem?_eq_none (by rw [Array.length_toList,Sort.size_flatK];simp;omega),List.getElem?_eq_none (by rw [sixes_len hf];omega)]
theorem putRow_block {w:World} {bl:Nat} {F cur:Array Value} {T:TypeId} {fr:Nat × Nat} (h:w.heap[bl]? =some (.cells cur T fr)):(Sort.putRow id w bl 0 F).heap[bl]? =some (.cells (Sort.putCells id 0 F cur) T fr):=by
 unfold Sort.putRow Sort.mapBlock
 rw [Array.getElem?_modify,if_pos rfl]
 rw [h]
 rfl
theorem putRow_chg (w:World) (bl:Nat) (F:Array Value):Chg (fun q _=>q=bl) w (Sort.putRow id w bl 0 F):=by
 refine ⟨rfl,rfl,rfl,by rw [Sort.size_putRow];exact Nat.le_refl _,fun k hk hn=> ?_,fun k hn c e f hc=> ?_⟩
 ·have hne: ¬bl=k:=fun e=>hn 0 e.symm
  simp [Sort.putRow,Sort.mapBlock,Array.getElem?_modify,hne]
 ·obtain ⟨i,hi⟩:=hn
  have hne: ¬bl=k:=fun e=>hi e.symm
  exact ⟨c,by simp [Sort.putRow,Sort.mapBlock,Array.getElem?_modify,hne,hc],rfl,fun _ _=>rfl⟩
theorem own_putRow {w:World} {base size n cap bl:Nat} {T:TypeId} {xs:List Value} (h:w.ownsRow base T size (.slice (some ⟨bl,0,none⟩) n cap) n xs) (F:Array Value) (hF:F.size=n*size):(Sort.putRow id w bl 0 F).ownsRow base T size (.slice (some ⟨bl,0,none⟩) n cap) n F.toList:=by
 refine ⟨by rw [Array.length_toList];exact hF,?_⟩
 rcases h.2 with ⟨e,_⟩ | ⟨g,cap',cur,e,h1,h2,h3,h4,h5,h6⟩
 ·cases e
 ·injection e with e1 e2 e3
  injection e1 with e1
  injection e1 with e1
  subst e1
  subst e3
  refine .inr ⟨bl,cap,Sort.putCells id 0 F cur,rfl,h1,putRow_block h2,h3,h4,by unfold Sort.putCells;rw [Array.size_mapIdx];exact h5,?_⟩
  have hle:n*size≤cur.size:=by rw [h5];exact Nat.mul_le_mul_right _ h3
  refine List.ext_getElem (by rw [List.length_take,Array.length_toList,Array.length_toList];unfold Sort.putCells;rw [Array.size_mapIdx];omega) fun i hi1 hi2=> ?_
  rw [Array.length_toList] at hi2
  rw [List.getElem_take,Array.getElem_toList,Array.getElem_toList]
  unfold Sort.putCells
  rw [Array.getElem_mapIdx,if_pos ⟨Nat.zero_le _,by omega⟩,Nat.sub_zero]
  exact getElem!_pos F i hi2
theorem holdsK_own {α:Type} [Inhabited α] {f:α→List Value} (hf: ∀x,(f x).length=6) {w:World} {base n cap bl:Nat} {T:TypeId} {xs:List α} (h:w.ownsRow base T 6 (.slice (some ⟨bl,0,none⟩) n cap) n (sixes f xs)):Sort.HoldsK f 6 w bl 0 xs.toArray:=by
 intro j hj
 have hl:=h.1
 rw [sixes_len hf] at hl
 rw [Sort.size_flatK] at hj
 have hj2:j<xs.length*6:=by simpa using hj
 rw [Nat.zero_add]
 have h0:=flat_sixes hf xs
 rcases h.2 with ⟨e,_⟩ | ⟨g,cap',cur,e,h1,h2,h3,h4,h5,h6⟩
 ·cases e
 ·injection e with e1 e2 e3
  injection e1 with e1
  injection e1 with e1
  subst e1
  refine ⟨?_,frozen_of_row _ _ _ _ _ h2⟩
  have hs:j<(Sort.flatK f 6 xs.toArray).size:=by rw [Sort.size_flatK];exact hj
  have hlt:j<cur.size:=by rw [h5];omega
  show w.cell? ⟨bl,j,none⟩=_
  unfold World.cell?
  simp only [h2]
  rw [getElem!_pos _ j hs]
  have e2:cur.toList.take (n*6)=(Sort.flatK f 6 xs.toArray).toList:=by rw [h0,h6]
  have e3:=congrArg (fun q=>q[j]?) e2
  simp only [List.getElem?_take] at e3
  rw [if_pos (by omega),Array.getElem?_toList,Array.getElem?_toList,Array.getElem?_eq_getElem hlt,Array.getElem?_eq_getElem hs] at e3
  simpa [Array.getElem?_eq_getElem hlt] using Option.some.inj e3
theorem own_sortK {α:Type} [Inhabited α] {f:α→List Value} (hf: ∀x,(f x).length=6) {w:World} {base n cap bl m:Nat} {T:TypeId} {xs:List α} {ys:Array α} {os:Array Obj} (h:w.ownsRow base T 6 (.slice (some ⟨bl,0,none⟩) n cap) n (sixes f xs)) (hy:ys.size=xs.length):(sortWorldK f 6 w bl 0 m ys os).ownsRow base T 6 (.slice (some ⟨bl,0,none⟩) n cap) n (sixes f ys.toList)∧Chg (fun q _=>q=bl) w (sortWorldK f 6 w bl 0 m ys os):=by
 have hl:=h.1
 rw [sixes_len hf] at hl
 have h1:(Sort.ahead w m).ownsRow base T 6 (.slice (some ⟨bl,0,none⟩) n cap) n (sixes f xs):=h
 have h2:=own_putRow h1 (Sort.flatK f 6 ys) (by rw [Sort.size_flatK];omega)
 have h3:=flat_sixes hf ys.toList
 rw [Array.toArray_toList] at h3
 rw [h3] at h2
 have c1:Chg (fun q _=>q=bl) w (Sort.ahead w m):=Chg.of_heap rfl rfl rfl rfl
 have c2:=c1.trans (putRow_chg (Sort.ahead w m) bl (Sort.flatK f 6 ys))
 have hb:Below (Sort.putRow id (Sort.ahead w m) bl 0 (Sort.flatK f 6 ys)).heap.size (Sort.putRow id (Sort.ahead w m) bl 0 (Sort.flatK f 6 ys)) (Sort.grow (Sort.putRow id (Sort.ahead w m) bl 0 (Sort.flatK f 6 ys)) os):=
  ⟨rfl,rfl,rfl,by rw [Sort.size_grow];exact Nat.le_add_right _ _,fun k hk=>by simp [Sort.grow,Array.getElem?_append_left hk]⟩
 exact ⟨own_later h2 hb,c2.trans (Chg.of_below hb)⟩
end Go.Proofs.YtndlihclgdkpaaaGreatDoor
namespace Go.Proofs.YtndlihclgdkpaaaGreatDoor
open Go.Shelf
open Go.RowKit
open Kit (Chg)
open Go.Proofs.YtndlihclgdkpaaaGreatDoor.One
def lay_insHeads_ren:Go.Shelf.Ren:=⟨fun | 20=> 268 | n=>n,fun | 24=> 94 | 22=> 112 | 3=>3 | 25=> 230 | 4=>4 | 0=>0 | n=>n,fun | n=>n⟩
theorem lay_insHeads:SlLaysF0.n20 Tryz.prog lay_insHeads_ren:={
 mixed:=by kernel_rfl
 f20:=⟨Tryz.f268.name,by decide,Tryz.func268.trans (congrArg some (by kernel_rfl))⟩
 t0:= Tryz.underlying0
 a0:= Tryz.isAgg0
 z0:= Tryz.sizeOf0
 v0:= Tryz.zeroValue0
 t3:= Tryz.underlying3
 a3:= Tryz.isAgg3
 z3:= Tryz.sizeOf3
 v3:= Tryz.zeroValue3
 t4:= Tryz.underlying4
 a4:= Tryz.isAgg4
 z4:= Tryz.sizeOf4
 v4:= Tryz.zeroValue4
 t22:= Tryz.underlying112
 a22:= Tryz.isAgg112
 z22:= Tryz.sizeOf112
 v22:= Tryz.zeroValue112
 t25:= Tryz.underlying230
 a25:= Tryz.isAgg230
 z25:= Tryz.sizeOf230
 v25:= Tryz.zeroValue230 }
def lay_revEnts_ren:Go.Shelf.Ren:=⟨fun | 35=> 270 | n=>n,fun | 22=> 111 | 23=> 92 | 3=>3 | 4=>4 | 0=>0 | n=>n,fun | n=>n⟩
theorem lay_revEnts:SlLaysE0.n35 Tryz.prog lay_revEnts_ren:={
 mixed:=by kernel_rfl
 f35:=⟨Tryz.f270.name,by decide,Tryz.func270.trans (congrArg some (by kernel_rfl))⟩
 t0:= Tryz.underlying0
 a0:= Tryz.isAgg0
 z0:= Tryz.sizeOf0
 v0:= Tryz.zeroValue0
 t3:= Tryz.underlying3
 a3:= Tryz.isAgg3
 z3:= Tryz.sizeOf3
 v3:= Tryz.zeroValue3
 t4:= Tryz.underlying4
 a4:= Tryz.isAgg4
 z4:= Tryz.sizeOf4
 v4:= Tryz.zeroValue4
 t22:= Tryz.underlying111
 a22:= Tryz.isAgg111
 z22:= Tryz.sizeOf111
 v22:= Tryz.zeroValue111 }
def lay_revStrs_ren:Go.Shelf.Ren:=⟨fun | 35=> 271 | n=>n,fun | 22=> 43 | 23=>9 | 3=>3 | 4=>4 | 0=>0 | n=>n,fun | n=>n⟩
theorem lay_revStrs:SlLaysE.n35 Tryz.prog lay_revStrs_ren:={
 mixed:=by kernel_rfl
 f35:=⟨Tryz.f271.name,by decide,Tryz.func271.trans (congrArg some (by kernel_rfl))⟩
 t0:= Tryz.underlying0
 a0:= Tryz.isAgg0
 z0:= Tryz.sizeOf0
 v0:= Tryz.zeroValue0
 t3:= Tryz.underlying3
 a3:= Tryz.isAgg3
 z3:= Tryz.sizeOf3
 v3:= Tryz.zeroValue3
 t4:= Tryz.underlying4
 a4:= Tryz.isAgg4
 z4:= Tryz.sizeOf4
 v4:= Tryz.zeroValue4
 t22:= Tryz.underlying43
 a22:= Tryz.isAgg43
 z22:= Tryz.sizeOf43
 v22:= Tryz.zeroValue43
 a23:= Tryz.isAgg9
 z23:= Tryz.sizeOf9 }
def lay_cloneHeads_ren:Go.Shelf.Ren:=⟨fun | 41=> 149 | n=>n,fun | 22=> 112 | 23=> 94 | 4=>4 | n=>n,fun | n=>n⟩
theorem lay_cloneHeads:SlLaysE0.n41 Tryz.prog lay_cloneHeads_ren:={
 mixed:=by kernel_rfl
 f41:=⟨Tryz.f149.name,by decide,Tryz.func149.trans (congrArg some (by kernel_rfl))⟩
 t4:= Tryz.underlying4
 a4:= Tryz.isAgg4
 z4:= Tryz.sizeOf4
 v4:= Tryz.zeroValue4
 t22:= Tryz.underlying112
 a22:= Tryz.isAgg112
 z22:= Tryz.sizeOf112
 v22:= Tryz.zeroValue112 }
theorem sizeOf_E (w:World):(Go.sizeOf 92).run Tryz.prog w= .ok 6 w:=by kernel_rfl
theorem isAgg_E (w:World):(isAgg 92).run Tryz.prog w= .ok true w:=by kernel_rfl
theorem sizeOf_H (w:World):(Go.sizeOf 94).run Tryz.prog w= .ok 6 w:=by kernel_rfl
theorem isAgg_H (w:World):(isAgg 94).run Tryz.prog w= .ok true w:=by kernel_rfl
theorem own_cases {w:World} {base T n size:Nat} {v:Value} {xs:List Value} (h:w.ownsRow base T size v n xs):(v= .slice none 0 0∧n=0)∨ ∃bl cap,v= .slice (some ⟨bl,0,none⟩) n cap:=by
 rcases h.2 with h0 | ⟨g,cap',cur,e,_⟩
 ·exact .inl h0
 ·exact .inr ⟨g,cap',e⟩
theorem revEnts_any {base n:Nat} (v:Value) (xs:List EV) (hn:xs.length=n) (hn2:n≤1000000) (w:World) (h:w.ownsRow base 92 6 v n (evs xs)):
    Calls Tryz.prog 270 #[v] w fun e w'=>e= .returned (.tuple #[])∧w'.ownsRow base 92 6 v n (evs xs.reverse)∧Chg (fun q _=>some q=v.ownBlock) w w':=by
 rcases own_cases h with ⟨rfl,rfl⟩ | ⟨bl,cap,rfl⟩
 ·have hx:xs=[]:=List.eq_nil_of_length_eq_zero hn
  subst hx
  refine (AnyQ.slices_Reverse_empty lay_revEnts none 0 w).mono ?_
  rintro e w' ⟨rfl,rfl⟩
  exact ⟨rfl,h,Chg.refl _ _⟩
 ·subst hn
  have hH:=holdsK_own (f:=EV.cells) (fun _=>rfl) h
  refine (AnyQ.slices_Reverse lay_revEnts 6 isAgg_E sizeOf_E EV.cells (fun _=>rfl) EV.one bl 0 cap xs.toArray w hH (by simp;omega)).mono ?_
  rintro e w' ⟨rfl,m,rfl⟩
  have h1:=own_sortK (f:=EV.cells) (fun _=>rfl) (m:=m) (os:= #[]) (ys:=xs.toArray.reverse) h (by simp)
  have e1:sortWorldK EV.cells 6 w bl 0 m xs.toArray.reverse #[]=Sort.putRowK EV.cells 6 (Sort.ahead w m) bl 0 xs.toArray.reverse:=by unfold sortWorldK;rw [Sort.grow_empty]
  rw [e1] at h1
  refine ⟨rfl,?_,h1.2.mono fun q _ _ e=>by rw [e];rfl⟩
  have h2:=h1.1
  rw [show xs.toArray.reverse.toList=xs.reverse by simp] at h2
  exact h2
theorem revStrs_any {base n:Nat} (v:Value) (xs:List ByteArray) (hn:xs.length=n) (hn2:n≤1000000) (w:World) (h:w.ownsRow base 9 1 v n (strV xs)):
    Calls Tryz.prog 271 #[v] w fun e w'=>e= .returned (.tuple #[])∧w'.ownsRow base 9 1 v n (strV xs.reverse)∧Chg (fun q _=>some q=v.ownBlock) w w':=by
 rcases own_cases h with ⟨rfl,rfl⟩ | ⟨bl,cap,rfl⟩
 ·have hx:xs=[]:=List.eq_nil_of_length_eq_zero hn
  subst hx
  refine (AnyE.slices_Reverse_empty lay_revStrs none 0 w).mono ?_
  rintro e w' ⟨rfl,rfl⟩
  exact ⟨rfl,h,Chg.refl _ _⟩
 ·subst hn
  have hH:Sort.Holds Value.string w bl 0 xs.toArray:=fun j hj=>by
   have hj2:j<xs.length:=by simpa using hj
   obtain ⟨a,cs,he,_,_,hS,_,_⟩:=strs_of_own h
   injection he with e1 e2 e3
   rcases hS with h0 | ⟨b,o,e,hs⟩
   ·rw [h0] at hj2;simp at hj2
   ·rw [← e1] at e
    injection e with e
    injection e with e4 e5
    have h1:=hs j hj2
    rw [← e4,← e5] at h1
    refine ⟨?_,?_⟩
    ·rw [h1,getElem!_pos _ j hj,lD,lE hj2]
     simp
    ·rcases h.2 with ⟨e6,_⟩ | ⟨g,cap',cur,e6,_,h2,_⟩
     ·cases e6
     ·injection e6 with e6
      injection e6 with e6
      injection e6 with e6
      subst e6
      exact frozen_of_row _ _ _ _ _ h2
  refine (AnyE.slices_Reverse_arr lay_revStrs Value.string (fun _=>rfl) bl 0 cap xs.toArray w hH (by simp;omega)).mono ?_
  rintro e w' ⟨rfl,m,rfl⟩
  have h0:(Sort.ahead w m).ownsRow base 9 1 (.slice (some ⟨bl,0,none⟩) xs.length cap) xs.length (strV xs):=h
  have e1:Sort.putRow Value.string (Sort.ahead w m) bl 0 xs.toArray.reverse=Sort.putRow id (Sort.ahead w m) bl 0 (xs.toArray.reverse.map Value.string):=by
   unfold Sort.putRow
   congr 1
   funext c
   unfold Sort.putCells
   rw [Array.size_map]
   congr 1
   funext k x
   split
   ·rename_i hk
    rw [getElem!_pos _ (k - 0) (by simp at hk ⊢;omega),getElem!_pos _ (k - 0) (by simp at hk ⊢;omega)]
    simp
   ·rfl
  rw [e1]
  have h1:=own_putRow h0 (xs.toArray.reverse.map Value.string) (by simp)
  refine ⟨rfl,?_,((Chg.of_heap rfl rfl rfl rfl:Chg (fun q _=>q=bl) w (Sort.ahead w m)).trans (putRow_chg _ bl _)).mono fun q _ _ e=>by rw [e];rfl⟩
  have e2:(xs.toArray.reverse.map Value.string).toList=strV xs.reverse:=by unfold strV;simp
  rw [e2] at h1
  exact h1
def HeadsAt (w:World) (a:Option Addr) (ys:List HV):Prop:=(a=none∧ys=[])∨ ∃b o,a=some ⟨b,o,none⟩∧ ∀j u,(hvs ys)[j]? =some u→w.cell? ⟨b,o+j,none⟩=some u
theorem HeadsAt.later {w w':World} {a:Option Addr} {ys:List HV} (h:HeadsAt w a ys) (hb:Below w.heap.size w w'):HeadsAt w' a ys:=by
 rcases h with h | ⟨b,o,e,hc⟩
 ·exact .inl h
 ·exact .inr ⟨b,o,e,fun j u hj=>(hb.cell (World.block_lt_of_cell? w _ (hc j u hj))).trans (hc j u hj)⟩
theorem cloneHeads_any (a:Option Addr) (n c:Nat) (ys:List HV) (hn:ys.length=n) (hn2:n≤1000000) (w:World) (h:HeadsAt w a ys):
    Calls Tryz.prog 149 #[.slice a n c] w fun e w'=> ∃v',e= .returned v'∧w'.ownsRow w.heap.size 94 6 v' n (hvs ys)∧Below w.heap.size w w':=by
 obtain ⟨i0,hi,hz0,hz1,hz2⟩:=info_parts Tryz.infoHead
 rcases h with ⟨rfl,rfl⟩ | ⟨b,o,rfl,hc⟩
 ·subst hn
  refine (AnyE.slices_Clone_nil lay_cloneHeads 0 c w).mono ?_
  rintro e w' ⟨rfl,rfl⟩
  exact ⟨_,rfl,World.ownsRow_nil _ _ _ _,Below.refl _ _⟩
 ·subst hn
  refine (AnyE.slices_Clone lay_cloneHeads i0 _ 6 88 hi hz0 hz1 hz2 rfl (by decide) sizeOf_H b o ys.length c (hvs ys) w (hvs_len ys) (by unfold maxLen;omega) (by omega) hc (hvs_one ys)).mono ?_
  rintro e w' ⟨v',rfl,h1,_,h2⟩
  exact ⟨v',rfl,h1,h2⟩
end Go.Proofs.YtndlihclgdkpaaaGreatDoor
namespace Go.Proofs.YtndlihclgdkpaaaGreatDoor
open Go.RowKit
open Kit (Chg)
open Go.Proofs.YtndlihclgdkpaaaGreatDoor.One

def cmpI (x y:Int):Int:=if x<y then -1 else if y<x then 1 else 0
def cmpH (x y:HV):Int:=if cmpI x.h.dev y.h.dev=0 then cmpI x.h.seq y.h.seq else cmpI x.h.dev y.h.dev
theorem ltH_iff (x y:HV):ltOf cmpH x y=decide (x.h.dev<y.h.dev∨(x.h.dev=y.h.dev∧x.h.seq<y.h.seq)):=by
 unfold ltOf cmpH cmpI
 rw [decide_eq_decide]
 split<;> (repeat' split at*)<;> omega
theorem swoH:Sort.SWO (ltOf cmpH) where
 irrefl x:=by rw [ltH_iff];simp
 trans x y z h1 h2:=by rw [ltH_iff] at*;simp only [decide_eq_true_eq] at*;omega
 ntrans x y z h1 h2:=by rw [ltH_iff] at*;simp only [decide_eq_false_iff_not] at*;omega
theorem isNaN_any (x:Int) (w:World):Calls Tryz.prog 222 #[.int .i64 x] w fun e w'=>e= .returned (.bool false)∧w=w':=by
 go_enter Tryz.func222,Tryz.ntmps222
 go_wp2
 go_ret
 first | exact ⟨rfl,rfl⟩ | simp
theorem compare_any (x y:Int) (w:World):Calls Tryz.prog 153 #[.int .i64 x,.int .i64 y] w fun e w'=>e= .returned (.int .i64 (cmpI x y))∧w=w':=by
 by_cases h1:x<y
 ·rw [show cmpI x y= -1 by unfold cmpI;rw [if_pos h1]]
  go_enter Tryz.func153,Tryz.ntmps153
  go_wp2_with (first
   | (go_at_call 222
      (with_reducible refine (isNaN_any _ _).mono ?_)
      rintro e w2 ⟨rfl,rfl⟩))
  go_ret
  first | exact ⟨rfl,rfl⟩ | simp
 ·by_cases h2:y<x
  ·rw [show cmpI x y=1 by unfold cmpI;rw [if_neg h1,if_pos h2]]
   go_enter Tryz.func153,Tryz.ntmps153
   go_wp2_with (first
    | (go_at_call 222
       (with_reducible refine (isNaN_any _ _).mono ?_)
       rintro e w2 ⟨rfl,rfl⟩))
   go_ret
   first | exact ⟨rfl,rfl⟩ | simp
  ·rw [show cmpI x y=0 by unfold cmpI;rw [if_neg h1,if_neg h2]]
   go_enter Tryz.func153,Tryz.ntmps153
   go_wp2_with (first
    | (go_at_call 222
       (with_reducible refine (isNaN_any _ _).mono ?_)
       rintro e w2 ⟨rfl,rfl⟩))
   go_ret
   first | exact ⟨rfl,rfl⟩ | simp
theorem or_any (b:Nat) (x y:Int) (w:World) (h0:w.cell? ⟨b,0,none⟩=some (.int .i64 x)) (h1:w.cell? ⟨b,1,none⟩=some (.int .i64 y)):Calls Tryz.prog 152 #[.slice (some ⟨b,0,none⟩) 2 2] w fun e w'=>e= .returned (.int .i64 (if x=0 then y else x))∧w=w':=by
 have H0:=hid h0
 have H1:=hid h1
 obtain ⟨r,hr⟩:=ex_eq (if x=0 then y else x)
 have HR:=hid hr
 rw [hr]
 clear h0 h1 hr
 go_enter Tryz.func152,Tryz.ntmps152
 go_upto_region 3 with fail
 go_loopw [8] (fun z wr=> ∃k:Nat,k≤2∧z= .int .i64 (k:Int)∧wr=w∧Hid (0<k→x=0)∧Hid (1<k→y=0)) (fun z _=>2 - (intOf z).toNat)
 case atStart=>exact ⟨0,by omega,rfl,rfl,hid (fun h=>by omega),hid (fun h=>by omega)⟩
 case round=>
  obtain ⟨k,hk,rfl,rfl,HX,HY⟩:=hrel
  by_cases hlt:k<2
  ·have hki:(k:Int)<2:=by omega
   obtain ⟨z,hz⟩: ∃z,z=if k=0 then x else y:=⟨_,rfl⟩
   have hc:wr.cell? ⟨b,k,none⟩=some (.int .i64 z):=by
    rw [hz]
    by_cases hk0:k=0
    ·rw [if_pos hk0,hk0];exact H0.o
    ·rw [if_neg hk0,show k=1 by omega];exact H1.o
   have HZ:=hid hz
   clear hz
   by_cases hz0:z=0
   ·subst hz0
    go_wp2_with fail
    go_roundw
    case rel=>exact ⟨k+1,hlt,by go_num,trivial,hid (fun _=>by
     by_cases hk0:k=0
     ·have:=HZ.o;rw [if_pos hk0] at this;exact this.symm
     ·exact HX.o (by omega)),hid (fun h=>by
     have:=HZ.o;rw [if_neg (by omega)] at this;exact this.symm)⟩
    case measure=>simp [intOf];omega
   ·have hne:(z != 0)=true:=by simpa using hz0
    go_wp2_with fail
    go_ret
    have h1:=HZ.o
    have h2:=HX.o
    have h3:z=if x=0 then y else x:=by
     by_cases hk0:k=0
     ·rw [if_pos hk0] at h1;rw [h1] at hz0;rw [h1,if_neg hz0]
     ·rw [if_neg hk0] at h1;rw [h2 (by omega),if_pos rfl,h1]
    have h4:z=r:=h3.trans HR.o
    subst h4
    first | exact ⟨rfl,rfl⟩ | trivial
  ·have hki: ¬(k:Int)<2:=by omega
   go_wp2_with fail
   go_ret
   have h1:=HX.o (by omega)
   have h2:=HY.o (by omega)
   have h4:r=0:=by have:=HR.o;rw [h1,if_pos rfl,h2] at this;exact this.symm
   subst h4
   first | exact ⟨rfl,rfl⟩ | trivial
theorem row2 {w:World} {N:Nat} {x0 x1:Value} {T:TypeId} {f:Nat × Nat} (hg:w.heap[N]? =some (.cells #[x0,x1] T f)):w.cell? ⟨N,0,none⟩=some x0∧w.cell? ⟨N,1,none⟩=some x1:=by
 constructor<;> (unfold World.cell?;simp only [hg];rfl)
theorem order_any (x y:HV) (w:World):Calls Tryz.prog 151 #[.agg #[.int .i64 x.h.dev,.int .i64 x.h.seq,.string x.h.sum,.int .i64 x.h.idx,.slice x.a1 x.h.ps.length x.c1,.slice x.a2 x.h.qs.length x.c2],.agg #[.int .i64 y.h.dev,.int .i64 y.h.seq,.string y.h.sum,.int .i64 y.h.idx,.slice y.a1 y.h.ps.length y.c1,.slice y.a2 y.h.qs.length y.c2]] w fun e w'=>e= .returned (.int .i64 (cmpH x y))∧ ∃q os',w'=Sort.grow (w.drewN q) os':=by
 obtain ⟨d,hd⟩:=ex_eq x.h.dev
 obtain ⟨d',hd'⟩:=ex_eq y.h.dev
 obtain ⟨s,hs⟩:=ex_eq x.h.seq
 obtain ⟨s',hs'⟩:=ex_eq y.h.seq
 have HR:Hid ((if cmpI d d'=0 then cmpI s s' else cmpI d d')=cmpH x y):=hid (by unfold cmpH;rw [hd,hd',hs,hs'])
 rw [hd,hd',hs,hs']
 clear hd hd' hs hs'
 obtain ⟨c1,h1⟩:=ex_eq (cmpI d d')
 obtain ⟨c2,h2⟩:=ex_eq (cmpI s s')
 have HC1:Hid (∀V,Calls Tryz.prog 153 #[.int .i64 d,.int .i64 d'] V fun e w'=>e= .returned (.int .i64 c1)∧V=w'):=hid (fun V=>by rw [← h1];exact compare_any d d' V)
 have HC2:Hid (∀V,Calls Tryz.prog 153 #[.int .i64 s,.int .i64 s'] V fun e w'=>e= .returned (.int .i64 c2)∧V=w'):=hid (fun V=>by rw [← h2];exact compare_any s s' V)
 rw [h1,h2] at HR
 obtain ⟨r,hr⟩:=ex_eq (cmpH x y)
 rw [hr] at HR ⊢
 clear h1 h2 hr
 go_enter Tryz.func151,Tryz.ntmps151
 go_upto_region 1 with fail
 obtain ⟨O1,hO1⟩: ∃O,O=Obj.cells #[.int .i64 d,.int .i64 s,.string x.h.sum,.int .i64 x.h.idx,.slice x.a1 x.h.ps.length x.c1,.slice x.a2 x.h.qs.length x.c2] 94 (0,0):=⟨_,rfl⟩
 obtain ⟨O2,hO2⟩: ∃O,O=Obj.cells #[.int .i64 d',.int .i64 s',.string y.h.sum,.int .i64 y.h.idx,.slice y.a1 y.h.ps.length y.c1,.slice y.a2 y.h.qs.length y.c2] 94 (0,0):=⟨_,rfl⟩
 rw [← hO1,← hO2]
 have H1:Hid (((w.alloc O1).alloc O2).heap[w.heap.size]? =some O1):=hid (((Below.heap_alloc _ _ _ (by simp)).trans (heap_alloc_new w O1)))
 have H2:Hid (((w.alloc O1).alloc O2).heap[w.heap.size+1]? =some O2):=hid (by have:=heap_alloc_new (w.alloc O1) O2;rwa [World.size_alloc] at this)
 have HG:Hid ((w.alloc O1).alloc O2=Sort.grow w #[O1,O2]):=hid (by rw [Sort.alloc_eq_grow,Sort.alloc_eq_grow,Sort.grow_grow];rfl)
 have HSZ:Hid (((w.alloc O1).alloc O2).heap.size=w.heap.size+2):=hid (by rw [World.size_alloc,World.size_alloc])
 obtain ⟨N,hN⟩:=ex_eq w.heap.size
 rw [hN] at H1 H2 HSZ ⊢
 obtain ⟨V,hV⟩:=ex_eq ((w.alloc O1).alloc O2)
 rw [hV] at H1 H2 HG HSZ ⊢
 rw [hO1] at H1
 rw [hO2] at H2
 clear hV hN hO1 hO2
 have HS:Hid (∀W,Below (N+2) V W→W.cell? ⟨N,0,none⟩=some (.int .i64 d)∧W.cell? ⟨N,1,none⟩=some (.int .i64 s)∧W.cell? ⟨N+1,0,none⟩=some (.int .i64 d')∧W.cell? ⟨N+1,1,none⟩=some (.int .i64 s')):=hid (fun W hW=>by
  obtain ⟨a0,a1,_⟩:=row6 ((hW.block N (by omega)).trans H1.o)
  obtain ⟨b0,b1,_⟩:=row6 ((hW.block (N+1) (by omega)).trans H2.o)
  exact ⟨a0,a1,b0,b1⟩)
 have HB:Hid (Below (N+2) V V.drew):=hid (by have:=Below.refl V.heap.size V;rw [HSZ.o] at this;exact this.drew)
 obtain ⟨l0,l1,l2,l3⟩:=HS.o _ HB.o
 refine Kit.wp_region_gplan (fun W=>W.cell? ⟨N,0,none⟩=some (.int .i64 d)∧W.cell? ⟨N,1,none⟩=some (.int .i64 s)∧W.cell? ⟨N+1,0,none⟩=some (.int .i64 d')∧W.cell? ⟨N+1,1,none⟩=some (.int .i64 s')) [(true,0),(true,1),(true,2),(true,3),(true,5),(true,6),(true,7),(true,8),(false,4),(false,9),(false,10),(false,11),(true,12)] (by kernel_rfl) (by kernel_rfl) (by kernel_rfl) (by kernel_rfl) ⟨l0,l1,l2,l3⟩ ?_
 iterate 8 (refine Kit.ghd (h:= ?_))
 refine Kit.gplan_op (by rfl) (by rfl) fun K hK=> ?_
 go_simp
 go_at_call 153
 with_reducible refine (HC1.o _).mono ?_
 rintro e w4 ⟨rfl,rfl⟩
 refine hK _ _ ⟨l0,l1,l2,l3⟩ ?_
 clear hK K
 refine Kit.gplan_op (by rfl) (by rfl) fun K hK=> ?_
 go_simp
 go_at_call 153
 with_reducible refine (HC2.o _).mono ?_
 rintro e w4 ⟨rfl,rfl⟩
 refine hK _ _ ⟨l0,l1,l2,l3⟩ ?_
 clear hK K
 refine Kit.gplan_op (by rfl) (by rfl) fun K hK=> ?_
 go_simp
 refine hK _ _ (HS.o _ (HB.o.alloc (by have:=HSZ.o;show N+2≤V.heap.size;omega) _)) ?_
 clear hK K
 refine Kit.gplan_op (by rfl) (by rfl) fun K hK=> ?_
 go_simp
 have HRW:Hid ((V.drew.alloc (.cells #[.int .i64 c1,.int .i64 c2] 3)).heap[V.heap.size]? =some (.cells #[.int .i64 c1,.int .i64 c2] 3 (0,0))):=hid (heap_alloc_new V.drew _)
 go_at_call 152
 refine (or_any _ c1 c2 _ (row2 HRW.o).1 (row2 HRW.o).2).mono ?_
 rintro e w4 ⟨rfl,rfl⟩
 have hrr:=HR.o
 rw [hrr]
 refine hK _ _ (HS.o _ (HB.o.alloc (by have:=HSZ.o;show N+2≤V.heap.size;omega) _)) ?_
 clear hK K
 iterate 1 (refine Kit.ghd (h:= ?_))
 refine Kit.gdn (h:=?_)
 go_wp2_with fail
 go_ret
 refine ⟨rfl,1,#[O1,O2,.cells #[.int .i64 c1,.int .i64 c2] 3 (0,0)],?_⟩
 rw [HG.o]
 rw [Sort.alloc_eq_grow]
 rfl
theorem cmpLaysH (blk off size:Nat) (w:World):CmpLays Tryz.prog 151 #[] HV.cells 6 cmpH blk off size w:=fun _ _ _ _ x y=>order_any x y _
theorem insNone_any (c:Nat) (w:World):Calls Tryz.prog 268 #[.slice none 0 c,.int .i64 0,.int .i64 0,.func (.func 151) #[] #[]] w fun e w'=>e= .returned (.tuple #[])∧w=w':=by
 go_enter Tryz.func268,Tryz.ntmps268
 go_wp2
 refine wp_loop_rounds 1 ?_
 rw [rounds_succ]
 go_wp2
 first
  | (go_end0;exact ⟨rfl,rfl⟩)
  | ((try simp only [Exit.inBlock,Exit.then]);refine bodyPost_ret (results_none rfl _ _ _) rfl ?_;exact ⟨rfl,rfl⟩)
  | trace_state
theorem insHeads_any {base n:Nat} (v:Value) (ys:List HV) (hn:ys.length=n) (hn2:n≤1000000) (w:World) (h:w.ownsRow base 94 6 v n (hvs ys)):
    Calls Tryz.prog 268 #[v,.int .i64 0,.int .i64 (n:Int),.func (.func 151) #[] #[]] w fun e w'=>e= .returned (.tuple #[])∧ ∃zs:List HV,zs.Perm ys∧w'.ownsRow base 94 6 v n (hvs zs)∧Chg (fun q _=>some q=v.ownBlock) w w':=by
 rcases own_cases h with ⟨rfl,rfl⟩ | ⟨bl,cap,rfl⟩
 ·refine (insNone_any 0 w).mono ?_
  rintro e w' ⟨rfl,rfl⟩
  exact ⟨rfl,ys,List.Perm.refl _,h,Chg.refl _ _⟩
 ·subst hn
  have hH:=holdsK_own (f:=HV.cells) (fun _=>rfl) h
  have eg: ∀args w,(callFunc 151 args).run Tryz.prog w= .ok (.enter 151 args) w:=enters_of Tryz.func151 (by kernel_rfl) rfl
  have hb:bl<w.heap.size:=(World.ownsRow.lt h bl rfl).2
  have hcon:=AnyQ.insertionSortCmpFunc lay_insHeads 6 isAgg_H sizeOf_H HV.cells (fun _=>rfl) HV.one cmpH 151 #[] bl 0 cap 0 ys.length ys.toArray w eg (cmpLaysH bl 0 _ w) hH hb (Nat.zero_le _) (by simp) (by simp;omega)
  refine Calls.mono hcon ?_
  rintro e w' ⟨rfl,m,os,rfl⟩
  obtain ⟨h1,_⟩:=Sort.insertionSort_holds swoH ys.toArray 0 ys.length (Nat.zero_le _) (by simp)
  have h2:=own_sortK (f:=HV.cells) (fun _=>rfl) (m:=m) (os:=os) (ys:=Sort.insertionSort (ltOf cmpH) ys.toArray 0 ys.length) h (by rw [h1.1];simp)
  refine ⟨rfl,(Sort.insertionSort (ltOf cmpH) ys.toArray 0 ys.length).toList,?_,h2.1,h2.2.mono fun q _ _ e=>by rw [e];rfl⟩
  have h3:=h1.2.2
  have hsz:=h1.1
  rw [show ys.toArray.extract 0 ys.length=ys.toArray by simp] at h3
  rw [show (Sort.insertionSort (ltOf cmpH) ys.toArray 0 ys.length).extract 0 ys.length=Sort.insertionSort (ltOf cmpH) ys.toArray 0 ys.length by
   have:ys.length=(Sort.insertionSort (ltOf cmpH) ys.toArray 0 ys.length).size:=by rw [hsz];simp
   conv=>lhs;arg 3;rw [this]
   simp] at h3
  exact h3
theorem sortHeads_any {base n:Nat} (v:Value) (ys:List HV) (hn:ys.length=n) (hn2:n≤19) (w:World) (h:w.ownsRow base 94 6 v n (hvs ys)):
    Calls Tryz.prog 150 #[v,.func (.func 151) #[] #[]] w fun e w'=>e= .returned (.tuple #[])∧ ∃zs:List HV,zs.Perm ys∧w'.ownsRow base 94 6 v n (hvs zs)∧Chg (fun q _=>some q=v.ownBlock) w w':=by
 have HI:=hid (insHeads_any v ys hn (by omega) w h)
 have HX: ∃a cap,v= .slice a n cap:=by
  rcases own_cases h with ⟨rfl,rfl⟩ | ⟨bl,cap,rfl⟩
  ·exact ⟨none,0,rfl⟩
  ·exact ⟨_,_,rfl⟩
 obtain ⟨a,cap,rfl⟩:=HX
 have h1: ¬(20:Int)≤(n:Int):=by omega
 have h2: ¬(20:Int)<(n:Int):=by omega
 have HS:Hid (Calls Tryz.prog 221 #[.slice a n cap,.int .i64 (n:Int),.func (.func 151) #[] #[]] w fun e w'=>e= .returned (.tuple #[])∧ ∃zs:List HV,zs.Perm ys∧w'.ownsRow base 94 6 (.slice a n cap) n (hvs zs)∧Chg (fun q _=>some q=(Value.slice a n cap).ownBlock) w w'):=hid (by
  clear h hn hn2
  go_enter Tryz.func221,Tryz.ntmps221
  go_wp2
  refine wp_loop_rounds 1 ?_
  rw [rounds_succ]
  go_wp2_with (first
   | (go_at_call 268
      (with_reducible refine HI.o.mono ?_)
      rintro e w2 ⟨rfl,hz⟩
      have HZ:=hid hz
      clear hz))
  refine wp_loop_rounds 1 ?_
  rw [rounds_succ]
  go_wp2_with fail
  (try simp only [Exit.inBlock,Exit.then])
  first
   | (refine bodyPost_ret (results_none rfl _ _ _) rfl ?_;exact ⟨rfl,HZ.o⟩)
   | (go_end0;exact ⟨rfl,HZ.o⟩))
 clear h hn hn2 HI h1 h2
 go_enter Tryz.func150,Tryz.ntmps150
 go_wp2_with (first
  | (go_at_call 221
     (with_reducible refine HS.o.mono ?_)
     rintro e w2 ⟨rfl,hz⟩
     have HZ:=hid hz
     clear hz))
 first
  | (go_end0;exact ⟨rfl,HZ.o⟩)
  | ((try simp only [Exit.inBlock,Exit.then]);refine bodyPost_ret (results_none rfl _ _ _) rfl ?_;exact ⟨rfl,HZ.o⟩)
end Go.Proofs.YtndlihclgdkpaaaGreatDoor
namespace Go.Proofs.YtndlihclgdkpaaaGreatDoor
open Go.RowKit
open Kit (Chg)
open Sha (v)
open Go.Proofs.YtndlihclgdkpaaaGreatDoor.One

theorem row3T {w:World} {N:Nat} {x0 x1 x2:Value} {T:TypeId} {f:Nat × Nat} (hg:w.heap[N]? =some (.cells #[x0,x1,x2] T f)):w.cell? ⟨N,0,none⟩=some x0∧w.cell? ⟨N,1,none⟩=some x1∧w.cell? ⟨N,2,none⟩=some x2:=by
 refine ⟨?_,?_,?_⟩<;> (unfold World.cell?;simp only [hg];rfl)
theorem put3_row {w:World} {N:Nat} {y0 y1 y2 x0 x1 x2:Value} {T:TypeId} (hg:w.heap[N]? =some (.cells #[y0,y1,y2] T (0,0))):(((w.setCell ⟨N,0,none⟩ x0).setCell ⟨N,1,none⟩ x1).setCell ⟨N,2,none⟩ x2).heap[N]? =some (.cells #[x0,x1,x2] T (0,0)):=
 heap_setCell_same _ N 2 _ _ x2 (heap_setCell_same _ N 1 _ _ x1 (heap_setCell_same w N 0 _ _ x0 hg))
def cellN (w:World) (b o:Nat):Nat:=match w.cell? ⟨b,o,none⟩ with
 | some v=>(intOf v).toNat
 | none=>0
theorem cellN_int {w:World} {b o n:Nat} (h:w.cell? ⟨b,o,none⟩=some (.int .i64 (n:Int))):cellN w b o=n:=by
 unfold cellN
 rw [h]
 simp [intOf]
structure TailR (w:World) (N n:Nat) (v7 v8:Value) (ys:List EV) (us:List ByteArray):Prop where
 row:w.heap[N]? =some (.cells #[.int .i64 (n:Int),v7,v8] 286 (0,0))
 es:w.ownsRow (N+1) 92 6 v7 ys.length (evs ys)
 ss:w.ownsRow (N+1) 9 1 v8 ys.length (strV us)
 sum:us.map nb=ys.map (fun y=>sumE y.e)
theorem TailR.later {w w':World} {N n:Nat} {v7 v8:Value} {ys:List EV} {us:List ByteArray} (h:TailR w N n v7 v8 ys us) (hb:Below w.heap.size w w'):TailR w' N n v7 v8 ys us:=
 ⟨(hb.block N (gS h.row).1).trans h.row,own_later h.es hb,own_later h.ss hb,h.sum⟩
theorem own_base {w:World} {base base' e size n:Nat} {v:Value} {xs:List Value} (h:w.ownsRow base e size v n xs) (hb:base'≤base):w.ownsRow base' e size v n xs:=by
 refine ⟨h.1,?_⟩
 rcases h.2 with h0 | ⟨g,cap,cur,e1,h1,r⟩
 ·exact .inl h0
 ·exact .inr ⟨g,cap,cur,e1,Nat.le_trans hb h1,r⟩
theorem below_drewN {w:World} {n:Nat}:Below w.heap.size w (w.drewN n):=⟨rfl,rfl,rfl,Nat.le_refl _,fun _ _=>rfl⟩
def FindOut (w w':World) (log:List Ent) (gv:List Nat→Option Ent) (h:Hd) (xs0:List EV) (v0 v7 v8 ok:Value):Prop:=
 (ok= .bool false∧findL log gv h=none∧v0= .int .i64 0∧v7= .slice none 0 0∧v8= .slice none 0 0)∨
 (ok= .bool true∧ ∃(b:Nat) (ys:List EV) (us:List ByteArray),v0= .int .i64 (b:Int)∧findL log gv h=some (b,ys.map EV.e)∧w'.ownsRow w.heap.size 92 6 v7 ys.length (evs ys)∧w'.ownsRow w.heap.size 9 1 v8 ys.length (strV us)∧us.map nb=ys.map (fun y=>sumE y.e)∧(∀y ∈ ys,y ∈ xs0)∧ys.length≤4096)
theorem log_day {es:List Ent} {b:Nat} (h:b<es.length):dayAt es (b+1)=(es[b]).day:=by
 simp only [dayAt,lE h]
theorem daysOk_drop (day:Int) (es:List Ent) (k:Nat) (hk:k<es.length):daysOk day (es.drop k)=(decide (day≤(es[k]).day) && daysOk (es[k]).day (es.drop (k+1))):=by
 rw [List.drop_eq_getElem_cons hk,daysOk]
theorem givenV_valid {xs:List EV} {s:List Nat} {x:EV} (h:givenV xs s=some x):validE x.e=true∧sumE x.e=s:=by
 have h1:=List.find?_some h
 rw [Bool.and_eq_true,decide_eq_true_eq] at h1
 exact h1
theorem givenOf_ok (es:List Ent): ∀s e,givenOf es s=some e→ValidE e∧sumE e=s:=fun s e h=>(givenOf_some h).2

theorem find_any {G:Nat→Nat} {t g mb mn:Nat} {l:Lin} (xs0:List EV) (x:HV) (q:Nat) (hq:x.h.seq=(q:Int)) (hs32:x.h.sum.size=32) (hmx:l.log.length≤4096) (w:World) (h:LineAt w G t g l) (hM0:MapE w mb mn xs0):
    Calls Tryz.prog 223 #[.pointer (some ⟨g,0,none⟩),.map (some mb),.agg #[.int .i64 x.h.dev,.int .i64 (q:Int),.string x.h.sum,.int .i64 x.h.idx,.slice x.a1 x.h.ps.length x.c1,.slice x.a2 x.h.qs.length x.c2]] w fun e w'=> ∃(v0 v7 v8 ok:Value),e= .returned (.tuple #[.agg #[v0,v7,v8],ok])∧Below w.heap.size w w'∧
     FindOut w w' l.log (givenOf (xs0.map EV.e)) x.h xs0 v0 v7 v8 ok:=by
 obtain ⟨vl,vs,ss,hx,f0,f1,f2,f3,f4,f5,f6,f7,f8,f9,f10,f11,f12,f13,f14,hln⟩:=h
 have HLN:=hid hln
 obtain ⟨al,cl,rfl,hcl,hcm,hnl,hES,hoff⟩:=hln.log.ents
 obtain ⟨sl,cs,rfl,hsl,hcs,hSS,hns,hnb⟩:=strs_of_own hln.sums
 obtain ⟨L,hLe⟩:=ex_eq l.log.length
 rw [hLe] at hcl hsl hmx
 have HLE:=hid hLe
 obtain ⟨bf,hbf⟩:=ex_eq l.fork.isSome
 have HRW:Hid (w.heap[g]? =some (.cells (lineRow l.pub (.slice al L cl) (.slice sl L cs) (l.sealed':Int) hx bf f0 f1 f2 f3 f4 f5 f6 f7 f8 f9 f10 f11 f12 f13 f14) 222 (0,0))):=hid (by rw [← hLe,← hbf];exact hln.row)
 have HES:=hid hES
 have HSS:=hid hSS
 have HSL:=hid hsl
 have HSE:=hid hln.sumE
 have HMP:=hid hM0
 have HS32:=hid hs32
 have HLM:Hid (L≤4096):=hid hmx
 have HQ:=hid hq
 obtain ⟨gv,hgv⟩:=ex_eq (givenOf (xs0.map EV.e))
 have HGV:=hid hgv
 rw [hgv]
 clear hln hcl hcm hnl hES hoff hsl hcs hSS hns hnb hLe hbf hM0 hs32 hmx hgv hq
 go_enter Tryz.func223,Tryz.ntmps223
 go_upto_region 1 with fail
 refine wp_over (fun W=>Hid (W.heap[w.heap.size]? =some (.cells #[.int .i64 x.h.dev,.int .i64 (q:Int),.string x.h.sum,.int .i64 x.h.idx,.slice x.a1 x.h.ps.length x.c1,.slice x.a2 x.h.qs.length x.c2] 94 (0,0)))∧Hid (W.heap[w.heap.size+1]? =some (.cells #[.int .i64 0,.slice none 0 0,.slice none 0 0] 286 (0,0)))∧Hid (Below w.heap.size w W)∧Hid (W.heap.size=w.heap.size+2)) ⟨(Below.heap_alloc _ _ _ (by simp)).trans (heap_alloc_new _ _),(by have:=heap_alloc_new (w.alloc (.cells #[.int .i64 x.h.dev,.int .i64 (q:Int),.string x.h.sum,.int .i64 x.h.idx,.slice x.a1 x.h.ps.length x.c1,.slice x.a2 x.h.qs.length x.c2] 94)) (.cells #[.int .i64 0,.slice none 0 0,.slice none 0 0] 286);rwa [World.size_alloc] at this),((Below.refl _ _).alloc (Nat.le_refl _) _).alloc (by simp) _,by show _=_;simp⟩ ?_
 rintro W ⟨HHB,HR,HB1,HW1⟩
 obtain ⟨M,hM⟩:=ex_eq w.heap.size
 have HM:=hid hM
 rw [hM] at HHB HR HB1 HW1 ⊢
 clear hM
 obtain ⟨h0,h1,h2,h3,h4,h5⟩:=row6 HHB.o
 by_cases hbig:4096<q
 ·have hqi:(4096:Int)<(q:Int):=by omega
  obtain ⟨r0,r1,r2⟩:=row3T HR.o
  have fr:=fun i=>frozen_of_row _ _ i _ _ HR.o
  go_wp2_with fail
  refine bodyPost_ret (results_cell_row_tmp (p:=6) (u:=7) rfl _ _ (M+1) 286 #[.int .i64 0,.slice none 0 0,.slice none 0 0] (0,0) _ (by rfl) (put3_row HR.o) Tryz.underlying286 rfl (by kernel_rfl)) rfl ?_
  refine ⟨.int .i64 0,.slice none 0 0,.slice none 0 0,.bool false,rfl,?_,?_⟩
  ·rw [HM.o]
   exact (((HB1.o).setCell (p:=⟨M+1,0,none⟩) (Nat.le_succ M) _).setCell (p:=⟨M+1,1,none⟩) (Nat.le_succ M) _).setCell (p:=⟨M+1,2,none⟩) (Nat.le_succ M) _
  ·unfold FindOut
   exact .inl ⟨rfl,by unfold findL;rw [if_pos (by rw [HQ.o];omega)],rfl,rfl,rfl⟩
 ·have hqi: ¬(4096:Int)<(q:Int):=by omega
  go_upto_region 4 with fail
  rw [HW1.o]
  refine wp_over (fun V=>Hid (V.heap[M]? =some (.cells #[.int .i64 x.h.dev,.int .i64 (q:Int),.string x.h.sum,.int .i64 x.h.idx,.slice x.a1 x.h.ps.length x.c1,.slice x.a2 x.h.qs.length x.c2] 94 (0,0)))∧Hid (V.heap[M+1]? =some (.cells #[.int .i64 0,.slice none 0 0,.slice none 0 0] 286 (0,0)))∧Hid (TailR V (M+2) q (.slice none 0 0) (.slice none 0 0) [] [])∧Hid (Below M w V)) ⟨(Below.heap_alloc _ _ _ (by have:=HW1.o;omega)).trans HHB.o,(Below.heap_alloc _ _ _ (by have:=HW1.o;omega)).trans HR.o,⟨by have:=heap_alloc_new W (.cells #[.int .i64 (q:Int),.slice none 0 0,.slice none 0 0] 286);rwa [HW1.o] at this,World.ownsRow_nil _ _ _ _,World.ownsRow_nil _ _ _ _,rfl⟩,HB1.o.alloc (by have:=HW1.o;show M≤W.heap.size;omega) _⟩ ?_
  clear HHB HR HB1 HW1 h0 h1 h2 h3 h4 h5
  rintro V0 ⟨HHB,HR,HT0,HB1⟩
  obtain ⟨h0,h1,h2,h3,h4,h5⟩:=row6 HHB.o
  go_upto_region 5 with fail
  clear h0 h1 h2 h3 h4 h5
  go_loopw [9] (fun sv wr=> ∃(n:Nat) (S:ByteArray) (v7 v8:Value) (ys:List EV) (us:List ByteArray),sv= .string S∧n+ys.length=q∧Hid (TailR wr (M+2) n v7 v8 ys us)∧Hid (S.size≤32)∧Hid (back l.log gv x.h.dev q (nb x.h.sum) []=back l.log gv x.h.dev n (nb S) (ys.map EV.e).reverse)∧Hid (∀y ∈ ys,y ∈ xs0)∧Hid (Chg (fun k _=>M+2≤k) V0 wr)) (fun _ wr=>cellN wr (M+2) 0)
  case atStart=>exact ⟨q,x.h.sum,.slice none 0 0,.slice none 0 0,[],[],rfl,rfl,HT0,hid (by rw [HS32.o];exact Nat.le_refl _),hid rfl,hid (by simp),hid (Chg.refl _ _)⟩
  case round=>
   obtain ⟨n,S,v7,v8,ys,us,rfl,hnq,HT,HSZ,HBK,HYX,HCH⟩:=hrel
   have HWR:Hid (Below M w wr):=hid (HB1.o.trans (HCH.o.below (by have:=HB1.o.size;rw [HM.o] at this;exact this) (fun k i hk h=>by omega)))
   have HRR:Hid (wr.heap[M+1]? =some (.cells #[.int .i64 0,.slice none 0 0,.slice none 0 0] 286 (0,0))):=hid ((HCH.o.other (M+1) (gS HR.o).1 (fun i h=>by omega)).trans HR.o)
   have HHR:Hid (wr.heap[M]? =some (.cells #[.int .i64 x.h.dev,.int .i64 (q:Int),.string x.h.sum,.int .i64 x.h.idx,.slice x.a1 x.h.ps.length x.c1,.slice x.a2 x.h.qs.length x.c2] 94 (0,0))):=hid ((HCH.o.other M (gS HHB.o).1 (fun i h=>by omega)).trans HHB.o)
   have HSIZ:Hid (M+3≤wr.heap.size):=hid (by have:=(gS HT.o.row).1;omega)
   have HLR:Hid (wr.heap[g]? =some (.cells (lineRow l.pub (.slice al L cl) (.slice sl L cs) (l.sealed':Int) hx bf f0 f1 f2 f3 f4 f5 f6 f7 f8 f9 f10 f11 f12 f13 f14) 222 (0,0))):=hid ((HWR.o.block g (by rw [← HM.o];exact (gS HRW.o).1)).trans HRW.o)
   obtain ⟨t0,t1,t2⟩:=row3T HT.o.row
   obtain ⟨_,l1,l2,_⟩:=line_cells HLR.o
   obtain ⟨h0,h1,_⟩:=row6 HHR.o
   have HCW:Hid (cellN wr (M+2) 0=n):=hid (cellN_int t0)
   by_cases hst:n=0∨ ∃m,n=m+1∧(l.log[m]?).map sumE=some (nb S)
   ·have HFB:Hid (back l.log gv x.h.dev q (nb x.h.sum) []=some (n,(ys.map EV.e).reverse)):=hid (by
       rw [HBK.o]
       rcases hst with h | ⟨m,h,hm⟩
       ·rw [h,back]
       ·rw [h,back,if_pos hm])
    have HNB:Hid (n≤L):=hid (by
     rcases hst with h | ⟨m,h,hm⟩
     ·omega
     ·have:m<l.log.length:=by
         rcases Nat.lt_or_ge m l.log.length with h2 | h2
         ·exact h2
         ·rw [List.getElem?_eq_none h2] at hm;simp at hm
      rw [HLE.o] at this;omega)
    by_cases hn0:n=0
    focus
     have hgt: ¬(0:Int)<(n:Int):=by omega
     have HN0:=hid hn0
     clear hn0 hst
     go_upto_region 14 with fail
     refine wp_over (fun V=>Hid (TailR V (M+2) n v7 v8 ys us)∧Hid (Chg (fun k _=>M+2≤k) V0 V)) ⟨HT,HCH⟩ ?_
     clear hgt
    rotate_left
    focus
     obtain ⟨m,hnm,hmm⟩:=hst.resolve_left hn0
     have HMM:=hid hmm
     clear hst hmm
     have hgt:(0:Int)<(n:Int):=by omega
     have hml:m<L:=by have:=HNB.o;omega
     obtain ⟨b6,o6,hsl6,hs6⟩: ∃b o,sl=some ⟨b,o,none⟩∧ ∀i,i<ss.length→w.cell? ⟨b,o+i,none⟩=some (.string (ss.getD i ByteArray.empty)):=by
      rcases HSS.o with h | h
      ·have:=HSL.o;rw [h] at this;simp at this;omega
      ·exact h
     have c6:=hs6 m (by rw [HSL.o];exact hml)
     have HC6:Hid ((l.log[m]?).map sumE=some (nb (ss.getD m ByteArray.empty))):=hid (by
      have h1:=congrArg (fun q=>q[m]?) HSE.o
      simp only [List.getElem?_map] at h1
      rw [← h1,lD,lE (show m<ss.length by rw [HSL.o];exact hml)]
      rfl)
     have c6':=(HWR.o.cell (p:=⟨b6,o6+m,none⟩) (by rw [← HM.o];exact World.block_lt_of_cell? w _ c6)).trans c6
     obtain ⟨S6,hS6⟩:=ex_eq (ss.getD m ByteArray.empty)
     rw [hS6] at c6' HC6
     clear hs6 c6 hS6
     rw [hsl6] at l2
     clear hsl6
     have hle:(n:Int)≤(L:Int):=by omega
     have hw:wrap64 ((n:Int) - 1)=(m:Int):=by rw [IntWalk.wrap64_in _ ⟨by omega,by omega⟩];omega
     have hwq:IntKind.i64.wrap ((n:Int) - 1)=(m:Int):=by rw [IntKind.wrap_i64];omega
     have hm0:(0:Int)≤(m:Int):=by omega
     have hmi:(m:Int)<(L:Int):=by omega
     have hSS:S6=S:=nb_inj (by have:=HC6.o;rw [HMM.o] at this;exact (Option.some.inj this).symm)
     subst hSS
     have HNM:=hid hnm
     clear hnm hn0
     go_upto_region 7 with fail
     go_quiet (fail)
     go_upto_region 14 with fail
     refine wp_over (fun V=>Hid (TailR V (M+2) n v7 v8 ys us)∧Hid (Chg (fun k _=>M+2≤k) V0 V)) ⟨hid (HT.o.later below_drewN),hid (HCH.o.drewN _)⟩ ?_
     clear hgt hml c6' HC6 hle hw hwq hm0 hmi
    all_goals
     clear t0 t1 t2 l1 l2 h0 h1
     clear HT HCH HWR HRR HHR HSIZ HLR
     rintro V ⟨HT,HCH⟩
     have HWR:Hid (Below M w V):=hid (HB1.o.trans (HCH.o.below (by have:=HB1.o.size;rw [HM.o] at this;exact this) (fun k i hk h=>by omega)))
     have HRR:Hid (V.heap[M+1]? =some (.cells #[.int .i64 0,.slice none 0 0,.slice none 0 0] 286 (0,0))):=hid ((HCH.o.other (M+1) (gS HR.o).1 (fun i h=>by omega)).trans HR.o)
     have HHR:Hid (V.heap[M]? =some (.cells #[.int .i64 x.h.dev,.int .i64 (q:Int),.string x.h.sum,.int .i64 x.h.idx,.slice x.a1 x.h.ps.length x.c1,.slice x.a2 x.h.qs.length x.c2] 94 (0,0))):=hid ((HCH.o.other M (gS HHB.o).1 (fun i h=>by omega)).trans HHB.o)
     have HSIZ:Hid (M+3≤V.heap.size):=hid (by have:=(gS HT.o.row).1;omega)
     have HLR:Hid (V.heap[g]? =some (.cells (lineRow l.pub (.slice al L cl) (.slice sl L cs) (l.sealed':Int) hx bf f0 f1 f2 f3 f4 f5 f6 f7 f8 f9 f10 f11 f12 f13 f14) 222 (0,0))):=hid ((HWR.o.block g (by rw [← HM.o];exact (gS HRW.o).1)).trans HRW.o)
     have HKQ:Hid (ys.length≤4096):=hid (by omega)
     have HUL:Hid (us.length=ys.length):=hid (by have:=congrArg List.length HT.o.sum;simpa using this)
     obtain ⟨K,hK⟩:=ex_eq ys.length
     rw [hK] at HKQ HUL
     obtain ⟨a7,cp7,hv7⟩: ∃a cap,v7= .slice a K cap:=by
      rw [← hK]
      rcases own_cases HT.o.es with ⟨e,e0⟩ | ⟨bl,cap,e⟩
      ·exact ⟨none,0,by rw [e,e0]⟩
      ·exact ⟨_,_,e⟩
     obtain ⟨a8,cp8,hv8⟩: ∃a cap,v8= .slice a K cap:=by
      rw [← hK]
      rcases own_cases HT.o.ss with ⟨e,e0⟩ | ⟨bl,cap,e⟩
      ·exact ⟨none,0,by rw [e,e0]⟩
      ·exact ⟨_,_,e⟩
     subst hv7
     subst hv8
     have HE7:Hid (V.ownsRow (M+2+1) 92 6 (.slice a7 K cp7) K (evs ys)):=hid (by have:=HT.o.es;rwa [hK] at this)
     have HE8:Hid (V.ownsRow (M+2+1) 9 1 (.slice a8 K cp8) K (strV us)):=hid (by have:=HT.o.ss;rwa [hK] at this)
     have HKE:=hid hK
     clear hK hnq
     obtain ⟨t0,t1,t2⟩:=row3T HT.o.row
     obtain ⟨_,l1,l2,_⟩:=line_cells HLR.o
     go_upto_region 15 with (first
      | (go_at_call 270
         (with_reducible refine (revEnts_any (.slice a7 K cp7) ys HKE.o (by have:=HKQ.o;omega) V HE7.o).mono ?_)
         rintro e w2 ⟨rfl,ho2,hc2⟩
         have HO2:=hid ho2
         have HC2:=hid hc2
         clear ho2 hc2 t0 t1 t2 l1 l2))
     have HR2:Hid (w2.heap[M+2]? =some (.cells #[.int .i64 (n:Int),.slice a7 K cp7,.slice a8 K cp8] 286 (0,0))):=hid ((HC2.o.other (M+2) (by have:=HSIZ.o;omega) (fun i e=>by have:=(HE7.o.lt _ e.symm).1;omega)).trans HT.o.row)
     have HS2:Hid (w2.ownsRow (M+2+1) 9 1 (.slice a8 K cp8) K (strV us)):=hid (ownsRow_keepM HE8.o HC2.o (fun b hb i e=>rows_apart HE8.o HE7.o (by decide) hb e))
     obtain ⟨t0,t1,t2⟩:=row3T HR2.o
     go_upto_region 16 with (first
      | (go_at_call 271
         (with_reducible refine (revStrs_any (.slice a8 K cp8) us HUL.o (by have:=HKQ.o;omega) w2 HS2.o).mono ?_)
         rintro e w3 ⟨rfl,ho3,hc3⟩
         have HO3:=hid ho3
         have HC3:=hid hc3
         clear ho3 hc3 t0 t1 t2))
     refine wp_over (fun V=>Hid (TailR V (M+2) n (.slice a7 K cp7) (.slice a8 K cp8) ys.reverse us.reverse)∧Hid (Chg (fun k _=>M+2≤k) V0 V)) ⟨hid ⟨(HC3.o.other (M+2) (gS HR2.o).1 (fun i e=>by have:=(HE8.o.lt _ e.symm).1;omega)).trans HR2.o,by
      rw [List.length_reverse,HKE.o]
      exact ownsRow_keepM HO2.o HC3.o (fun b hb i e=>rows_apart HO2.o HS2.o (by decide) hb e),by
      rw [List.length_reverse,HKE.o]
      exact HO3.o,by rw [List.map_reverse,List.map_reverse,HT.o.sum]⟩,hid ((HCH.o.trans (HC2.o.mono fun q i _ e=>by have:=(HE7.o.lt _ e.symm).1;omega)).trans (HC3.o.mono fun q i _ e=>by have:=(HE8.o.lt _ e.symm).1;omega))⟩ ?_
     obtain ⟨zs,hzs⟩:=ex_eq ys.reverse
     have HZS:Hid (zs.map EV.e=(ys.map EV.e).reverse):=hid (by rw [← hzs,List.map_reverse])
     have HKL:Hid (zs.length=K):=hid (by rw [← hzs,List.length_reverse];exact HKE.o)
     have HZX:Hid (∀y ∈ zs,y ∈ xs0):=hid (fun y hy=>HYX.o y (by rw [← hzs] at hy;exact List.mem_reverse.1 hy))
     rw [hzs]
     clear hzs HO2 HC2 HR2 HS2 HO3 HC3 HE7 HE8 HT HCH HWR HRR HHR HSIZ HLR
     rintro V4 ⟨HT,HCH⟩
     rename World=>V4
     have HWR:Hid (Below M w V4):=hid (HB1.o.trans (HCH.o.below (by have:=HB1.o.size;rw [HM.o] at this;exact this) (fun k i hk h=>by omega)))
     have HRR:Hid (V4.heap[M+1]? =some (.cells #[.int .i64 0,.slice none 0 0,.slice none 0 0] 286 (0,0))):=hid ((HCH.o.other (M+1) (gS HR.o).1 (fun i h=>by omega)).trans HR.o)
     have HHR:Hid (V4.heap[M]? =some (.cells #[.int .i64 x.h.dev,.int .i64 (q:Int),.string x.h.sum,.int .i64 x.h.idx,.slice x.a1 x.h.ps.length x.c1,.slice x.a2 x.h.qs.length x.c2] 94 (0,0))):=hid ((HCH.o.other M (gS HHB.o).1 (fun i h=>by omega)).trans HHB.o)
     have HSIZ:Hid (M+3≤V4.heap.size):=hid (by have:=(gS HT.o.row).1;omega)
     have HLR:Hid (V4.heap[g]? =some (.cells (lineRow l.pub (.slice al L cl) (.slice sl L cs) (l.sealed':Int) hx bf f0 f1 f2 f3 f4 f5 f6 f7 f8 f9 f10 f11 f12 f13 f14) 222 (0,0))):=hid ((HWR.o.block g (by rw [← HM.o];exact (gS HRW.o).1)).trans HRW.o)
     obtain ⟨t0,t1,t2⟩:=row3T HT.o.row
     obtain ⟨_,l1,l2,_⟩:=line_cells HLR.o
     obtain ⟨dy,hdy⟩:=ex_eq (dayAt l.log n)
     have HDY:=hid hdy
    ·(skip)
     have hml:m<L:=by have:=HNB.o;have:=HNM.o;omega
     have hl4:L≤4096:=HLM.o
     have HML:Hid (m<l.log.length):=hid (by rw [HLE.o];exact hml)
     have hdd:dy=(l.log[m]'HML.o).day:=by rw [← hdy,HNM.o];exact log_day HML.o
     obtain ⟨b5,o5,rfl,hc5⟩: ∃b o,al=some ⟨b,o,none⟩∧ ∀i,(h:i<l.log.length)→EntAt w b (o+i*6) l.log[i]:=by
      rcases HES.o with h | h
      ·have:=HML.o;rw [h] at this;simp at this
      ·exact h
     obtain ⟨_,_,_,_,_,_,_,_,_,c5,_⟩:=hc5 m HML.o
     rw [← hdd] at c5
     have d5:=(HWR.o.cell (p:=⟨b5,o5+m*6+3,none⟩) (by rw [← HM.o];exact World.block_lt_of_cell? w _ c5)).trans c5
     have hgt:(0:Int)<(n:Int):=by have:=HNM.o;omega
     have hw:wrap64 ((n:Int) - 1)=(m:Int):=by have:=HNM.o;rw [IntWalk.wrap64_in _ ⟨by omega,by omega⟩];omega
     have hwq:IntKind.i64.wrap ((n:Int) - 1)=(m:Int):=by have:=HNM.o;rw [IntKind.wrap_i64];omega
     have hm0:(0:Int)≤(m:Int):=by omega
     have hmi:(m:Int)<(L:Int):=by omega
     clear hdy hdd hc5 c5 hl4
     go_upto_region 18 with fail
     go_quiet (fail)
     go_upto_region 20 with fail
     clear t0 t1 t2 l1 l2 d5 hgt hw hwq hm0 hmi hml
     go_loopw [111,12] (fun kv dv wd=> ∃(k:Nat) (dd:Int),kv= .int .i64 (k:Int)∧dv= .int .i64 dd∧k≤K∧Hid (daysOk dy ((zs.map EV.e))=daysOk dd ((zs.map EV.e).drop k))∧Hid (Below V4.heap.size V4 wd)) (fun kv _ _=>K - (intOf kv).toNat)
     case atStart=>exact ⟨0,dy,rfl,rfl,by omega,hid rfl,hid (by first | exact Below.refl _ _ | exact below_drewN)⟩
     case round=>
      rename World=>wd
      obtain ⟨k,dd,rfl,rfl,hk,HDD,HVD⟩:=hrel
      have HTD:=hid (HT.o.later HVD.o)
      have HRD:=hid ((HVD.o.block (M+1) (by have:=HSIZ.o;omega)).trans HRR.o)
      have HBD:Hid (Below M w wd):=hid (HWR.o.trans (HVD.o.mono (by have:=HSIZ.o;omega)))
      by_cases hlt:k<K
      ·have hki:(k:Int)<(K:Int):=by omega
       have HKZ:Hid (k<zs.length):=hid (by rw [HKL.o];exact hlt)
       obtain ⟨_,_,_,he7,_,_,_,hc7⟩:=sixes_cells (f:=EV.cells) (fun _=>rfl) HTD.o.es
       obtain ⟨b7,hb7,_,hj7⟩:=hc7 k HKZ.o
       injection he7 with e7 _ _
       rw [← e7] at hb7
       subst hb7
       have g0:wd.cell? ⟨b7,k*6,none⟩=some (.int .i64 (zs[k]'HKZ.o).e.dev):=hj7 0 (by decide)
       have g1:wd.cell? ⟨b7,k*6+1,none⟩=some (.int .i64 (zs[k]'HKZ.o).e.seq):=hj7 1 (by decide)
       have g2:wd.cell? ⟨b7,k*6+2,none⟩=some (.int .i64 (zs[k]'HKZ.o).e.kind):=hj7 2 (by decide)
       have g3:wd.cell? ⟨b7,k*6+3,none⟩=some (.int .i64 (zs[k]'HKZ.o).e.day):=hj7 3 (by decide)
       have g4:wd.cell? ⟨b7,k*6+4,none⟩=some (.slice (zs[k]'HKZ.o).a (zs[k]'HKZ.o).e.body.length (zs[k]'HKZ.o).c):=hj7 4 (by decide)
       have g5:wd.cell? ⟨b7,k*6+5,none⟩=some (.string (zs[k]'HKZ.o).e.prev):=hj7 5 (by decide)
       obtain ⟨y3,hy3⟩:=ex_eq (zs[k]'HKZ.o).e.day
       have HD3:Hid (daysOk dd ((zs.map EV.e).drop k)=(decide (dd≤y3) && daysOk y3 ((zs.map EV.e).drop (k+1)))):=hid (by
        rw [daysOk_drop dd _ k (by rw [List.length_map];exact HKZ.o),List.getElem_map,hy3])
       rw [hy3] at g3
       clear hj7 hc7 e7 hy3
       go_upto_region 22 with fail
       obtain ⟨X,hX⟩:=ex_eq wd.heap.size
       have HXS:Hid (M+3≤X):=hid (by rw [← hX];have:=HVD.o.size;have:=HSIZ.o;omega)
       refine wp_over (fun U=>Hid (U.heap[M+1]? =some (.cells #[.int .i64 0,.slice none 0 0,.slice none 0 0] 286 (0,0)))∧Hid (Below M w U)∧Hid (Below V4.heap.size V4 U)∧Hid (U.cell? ⟨X,3,none⟩=some (.int .i64 y3))) ⟨(Below.heap_alloc _ _ _ (by have:=HVD.o.size;have:=HSIZ.o;omega)).trans HRD.o,HBD.o.alloc (by rw [← HM.o];exact HBD.o.size) _,HVD.o.alloc HVD.o.size _,by rw [← hX];exact cells_new_at _ _ _ 3 _ rfl⟩ ?_
       clear g0 g1 g2 g3 g4 g5 HTD HRD HBD HVD
       rintro U ⟨HRD,HBD,HVD,HG3⟩
       have g3:=HG3.o
       rw [hX]
       clear hX
       by_cases hday:y3<dd
       ·have HFN:Hid (findL l.log gv x.h=none):=hid (by
           unfold findL
           rw [if_neg (by rw [HQ.o];omega),show x.h.seq.toNat=q by rw [HQ.o];rfl,HFB.o]
           simp only
           rw [← HZS.o,HDY.o,if_neg]
           rw [HDD.o,HD3.o,decide_eq_false (by omega)]
           simp)
        obtain ⟨r0,r1,r2⟩:=row3T HRD.o
        have fr:=fun i=>frozen_of_row _ _ i _ _ HRD.o
        go_wp2_with fail
        refine bodyPost_ret (results_cell_row_tmp (p:=6) (u:=7) rfl _ _ (M+1) 286 #[.int .i64 0,.slice none 0 0,.slice none 0 0] (0,0) _ (by rfl) (put3_row HRD.o) Tryz.underlying286 rfl (by kernel_rfl)) rfl ?_
        refine ⟨.int .i64 0,.slice none 0 0,.slice none 0 0,.bool false,rfl,?_,?_⟩
        ·rw [HM.o]
         exact (((HBD.o).setCell (p:=⟨M+1,0,none⟩) (Nat.le_succ M) _).setCell (p:=⟨M+1,1,none⟩) (Nat.le_succ M) _).setCell (p:=⟨M+1,2,none⟩) (Nat.le_succ M) _
        ·unfold FindOut
         exact .inl ⟨rfl,HFN.o,rfl,rfl,rfl⟩
       ·have HD5:Hid (daysOk dd ((zs.map EV.e).drop k)=daysOk y3 ((zs.map EV.e).drop (k+1))):=hid (by rw [HD3.o,decide_eq_true (by omega),Bool.true_and])
        have hK4:K≤4096:=HKQ.o
        go_wp2_with fail
        go_roundw
        case rel=>exact ⟨k+1,y3,by go_num,rfl,hlt,hid (by rw [HDD.o,HD5.o]),HVD⟩
        case measure=>simp [intOf];omega
      ·have hki: ¬(k:Int)<(K:Int):=by omega
       obtain ⟨r0,r1,r2⟩:=row3T HRD.o
       have fr:=fun i=>frozen_of_row _ _ i _ _ HRD.o
       obtain ⟨t0,t1,t2⟩:=row3T HTD.o.row
       have HFN:Hid (findL l.log gv x.h=some (n,zs.map EV.e)):=hid (by
        unfold findL
        rw [if_neg (by rw [HQ.o];omega),show x.h.seq.toNat=q by rw [HQ.o];rfl,HFB.o]
        simp only
        rw [← HZS.o,HDY.o,if_pos]
        rw [HDD.o,List.drop_eq_nil_of_le (by rw [List.length_map,HKL.o];omega)]
        rfl)
       go_wp2_with fail
       refine bodyPost_ret (results_cell_row_tmp (p:=6) (u:=7) rfl _ _ (M+1) 286 #[.int .i64 (n:Int),.slice a7 K cp7,.slice a8 K cp8] (0,0) _ (by rfl) (put3_row HRD.o) Tryz.underlying286 rfl (by kernel_rfl)) rfl ?_
       have hch:Chg (fun k _=>k=M+1) wd (((wd.setCell ⟨M+1,0,none⟩ (.int .i64 (n:Int))).setCell ⟨M+1,1,none⟩ (.slice a7 K cp7)).setCell ⟨M+1,2,none⟩ (.slice a8 K cp8)):=((Chg.setCell1 (M:=fun k _=>k=M+1) wd _ _ _ rfl).setCell _ rfl).setCell _ rfl
       refine ⟨_,_,_,.bool true,rfl,by rw [HM.o];exact HBD.o.trans (hch.below (by have:=HBD.o.size;rw [HM.o] at this;exact this) (fun k i hk h=>by omega)),?_⟩
       unfold FindOut
       refine .inr ⟨rfl,n,zs,us.reverse,rfl,HFN.o,?_,?_,HTD.o.sum,HZX.o,by rw [HKL.o];exact HKQ.o⟩
       ·have h:=HTD.o.es
        rw [HKL.o] at h ⊢
        exact own_base (ownsRow_keepM h hch (fun b hb i e=>by have:=(h.lt b hb).1;omega)) (by rw [HM.o];omega)
       ·have h:=HTD.o.ss
        rw [HKL.o] at h ⊢
        exact own_base (ownsRow_keepM h hch (fun b hb i e=>by have:=(h.lt b hb).1;omega)) (by rw [HM.o];omega)
    ·(skip)
     have hgt: ¬(0:Int)<(n:Int):=by have:=HN0.o;omega
     have hd0:dy=0:=by rw [← hdy,HN0.o];rfl
     clear hdy
     subst hd0
     go_upto_region 20 with fail
     clear t0 t1 t2 l1 l2
     go_loopw [111,12] (fun kv dv wd=> ∃(k:Nat) (dd:Int),kv= .int .i64 (k:Int)∧dv= .int .i64 dd∧k≤K∧Hid (daysOk 0 ((zs.map EV.e))=daysOk dd ((zs.map EV.e).drop k))∧Hid (Below V4.heap.size V4 wd)) (fun kv _ _=>K - (intOf kv).toNat)
     case atStart=>exact ⟨0,0,rfl,rfl,by omega,hid rfl,hid (by first | exact Below.refl _ _ | exact below_drewN)⟩
     case round=>
      rename World=>wd
      obtain ⟨k,dd,rfl,rfl,hk,HDD,HVD⟩:=hrel
      have HTD:=hid (HT.o.later HVD.o)
      have HRD:=hid ((HVD.o.block (M+1) (by have:=HSIZ.o;omega)).trans HRR.o)
      have HBD:Hid (Below M w wd):=hid (HWR.o.trans (HVD.o.mono (by have:=HSIZ.o;omega)))
      by_cases hlt:k<K
      ·have hki:(k:Int)<(K:Int):=by omega
       have HKZ:Hid (k<zs.length):=hid (by rw [HKL.o];exact hlt)
       obtain ⟨_,_,_,he7,_,_,_,hc7⟩:=sixes_cells (f:=EV.cells) (fun _=>rfl) HTD.o.es
       obtain ⟨b7,hb7,_,hj7⟩:=hc7 k HKZ.o
       injection he7 with e7 _ _
       rw [← e7] at hb7
       subst hb7
       have g0:wd.cell? ⟨b7,k*6,none⟩=some (.int .i64 (zs[k]'HKZ.o).e.dev):=hj7 0 (by decide)
       have g1:wd.cell? ⟨b7,k*6+1,none⟩=some (.int .i64 (zs[k]'HKZ.o).e.seq):=hj7 1 (by decide)
       have g2:wd.cell? ⟨b7,k*6+2,none⟩=some (.int .i64 (zs[k]'HKZ.o).e.kind):=hj7 2 (by decide)
       have g3:wd.cell? ⟨b7,k*6+3,none⟩=some (.int .i64 (zs[k]'HKZ.o).e.day):=hj7 3 (by decide)
       have g4:wd.cell? ⟨b7,k*6+4,none⟩=some (.slice (zs[k]'HKZ.o).a (zs[k]'HKZ.o).e.body.length (zs[k]'HKZ.o).c):=hj7 4 (by decide)
       have g5:wd.cell? ⟨b7,k*6+5,none⟩=some (.string (zs[k]'HKZ.o).e.prev):=hj7 5 (by decide)
       obtain ⟨y3,hy3⟩:=ex_eq (zs[k]'HKZ.o).e.day
       have HD3:Hid (daysOk dd ((zs.map EV.e).drop k)=(decide (dd≤y3) && daysOk y3 ((zs.map EV.e).drop (k+1)))):=hid (by
        rw [daysOk_drop dd _ k (by rw [List.length_map];exact HKZ.o),List.getElem_map,hy3])
       rw [hy3] at g3
       clear hj7 hc7 e7 hy3
       go_upto_region 22 with fail
       obtain ⟨X,hX⟩:=ex_eq wd.heap.size
       have HXS:Hid (M+3≤X):=hid (by rw [← hX];have:=HVD.o.size;have:=HSIZ.o;omega)
       refine wp_over (fun U=>Hid (U.heap[M+1]? =some (.cells #[.int .i64 0,.slice none 0 0,.slice none 0 0] 286 (0,0)))∧Hid (Below M w U)∧Hid (Below V4.heap.size V4 U)∧Hid (U.cell? ⟨X,3,none⟩=some (.int .i64 y3))) ⟨(Below.heap_alloc _ _ _ (by have:=HVD.o.size;have:=HSIZ.o;omega)).trans HRD.o,HBD.o.alloc (by rw [← HM.o];exact HBD.o.size) _,HVD.o.alloc HVD.o.size _,by rw [← hX];exact cells_new_at _ _ _ 3 _ rfl⟩ ?_
       clear g0 g1 g2 g3 g4 g5 HTD HRD HBD HVD
       rintro U ⟨HRD,HBD,HVD,HG3⟩
       have g3:=HG3.o
       rw [hX]
       clear hX
       by_cases hday:y3<dd
       ·have HFN:Hid (findL l.log gv x.h=none):=hid (by
           unfold findL
           rw [if_neg (by rw [HQ.o];omega),show x.h.seq.toNat=q by rw [HQ.o];rfl,HFB.o]
           simp only
           rw [← HZS.o,HDY.o,if_neg]
           rw [HDD.o,HD3.o,decide_eq_false (by omega)]
           simp)
        obtain ⟨r0,r1,r2⟩:=row3T HRD.o
        have fr:=fun i=>frozen_of_row _ _ i _ _ HRD.o
        go_wp2_with fail
        refine bodyPost_ret (results_cell_row_tmp (p:=6) (u:=7) rfl _ _ (M+1) 286 #[.int .i64 0,.slice none 0 0,.slice none 0 0] (0,0) _ (by rfl) (put3_row HRD.o) Tryz.underlying286 rfl (by kernel_rfl)) rfl ?_
        refine ⟨.int .i64 0,.slice none 0 0,.slice none 0 0,.bool false,rfl,?_,?_⟩
        ·rw [HM.o]
         exact (((HBD.o).setCell (p:=⟨M+1,0,none⟩) (Nat.le_succ M) _).setCell (p:=⟨M+1,1,none⟩) (Nat.le_succ M) _).setCell (p:=⟨M+1,2,none⟩) (Nat.le_succ M) _
        ·unfold FindOut
         exact .inl ⟨rfl,HFN.o,rfl,rfl,rfl⟩
       ·have HD5:Hid (daysOk dd ((zs.map EV.e).drop k)=daysOk y3 ((zs.map EV.e).drop (k+1))):=hid (by rw [HD3.o,decide_eq_true (by omega),Bool.true_and])
        have hK4:K≤4096:=HKQ.o
        go_wp2_with fail
        go_roundw
        case rel=>exact ⟨k+1,y3,by go_num,rfl,hlt,hid (by rw [HDD.o,HD5.o]),HVD⟩
        case measure=>simp [intOf];omega
      ·have hki: ¬(k:Int)<(K:Int):=by omega
       obtain ⟨r0,r1,r2⟩:=row3T HRD.o
       have fr:=fun i=>frozen_of_row _ _ i _ _ HRD.o
       obtain ⟨t0,t1,t2⟩:=row3T HTD.o.row
       have HFN:Hid (findL l.log gv x.h=some (n,zs.map EV.e)):=hid (by
        unfold findL
        rw [if_neg (by rw [HQ.o];omega),show x.h.seq.toNat=q by rw [HQ.o];rfl,HFB.o]
        simp only
        rw [← HZS.o,HDY.o,if_pos]
        rw [HDD.o,List.drop_eq_nil_of_le (by rw [List.length_map,HKL.o];omega)]
        rfl)
       go_wp2_with fail
       refine bodyPost_ret (results_cell_row_tmp (p:=6) (u:=7) rfl _ _ (M+1) 286 #[.int .i64 (n:Int),.slice a7 K cp7,.slice a8 K cp8] (0,0) _ (by rfl) (put3_row HRD.o) Tryz.underlying286 rfl (by kernel_rfl)) rfl ?_
       have hch:Chg (fun k _=>k=M+1) wd (((wd.setCell ⟨M+1,0,none⟩ (.int .i64 (n:Int))).setCell ⟨M+1,1,none⟩ (.slice a7 K cp7)).setCell ⟨M+1,2,none⟩ (.slice a8 K cp8)):=((Chg.setCell1 (M:=fun k _=>k=M+1) wd _ _ _ rfl).setCell _ rfl).setCell _ rfl
       refine ⟨_,_,_,.bool true,rfl,by rw [HM.o];exact HBD.o.trans (hch.below (by have:=HBD.o.size;rw [HM.o] at this;exact this) (fun k i hk h=>by omega)),?_⟩
       unfold FindOut
       refine .inr ⟨rfl,n,zs,us.reverse,rfl,HFN.o,?_,?_,HTD.o.sum,HZX.o,by rw [HKL.o];exact HKQ.o⟩
       ·have h:=HTD.o.es
        rw [HKL.o] at h ⊢
        exact own_base (ownsRow_keepM h hch (fun b hb i e=>by have:=(h.lt b hb).1;omega)) (by rw [HM.o];omega)
       ·have h:=HTD.o.ss
        rw [HKL.o] at h ⊢
        exact own_base (ownsRow_keepM h hch (fun b hb i e=>by have:=(h.lt b hb).1;omega)) (by rw [HM.o];omega)
   ·(skip)
    obtain ⟨m,hnm⟩: ∃m,n=m+1:=⟨n - 1,by have: ¬n=0:=fun e=>hst (.inl e);omega⟩
    have HNM:=hid hnm
    have HNE:Hid (¬(l.log[m]?).map sumE=some (nb S)):=hid (fun e=>hst (.inr ⟨m,hnm,e⟩))
    have hgt:(0:Int)<(n:Int):=by omega
    clear hst
    by_cases hml0:m<L
    focus
     have hml:m<L:=hml0
     obtain ⟨b6,o6,hsl6,hs6⟩: ∃b o,sl=some ⟨b,o,none⟩∧ ∀i,i<ss.length→w.cell? ⟨b,o+i,none⟩=some (.string (ss.getD i ByteArray.empty)):=by
      rcases HSS.o with h | h
      ·have:=HSL.o;rw [h] at this;simp at this;omega
      ·exact h
     have c6:=hs6 m (by rw [HSL.o];exact hml)
     have HC6:Hid ((l.log[m]?).map sumE=some (nb (ss.getD m ByteArray.empty))):=hid (by
      have h1:=congrArg (fun q=>q[m]?) HSE.o
      simp only [List.getElem?_map] at h1
      rw [← h1,lD,lE (show m<ss.length by rw [HSL.o];exact hml)]
      rfl)
     have c6':=(HWR.o.cell (p:=⟨b6,o6+m,none⟩) (by rw [← HM.o];exact World.block_lt_of_cell? w _ c6)).trans c6
     obtain ⟨S6,hS6⟩:=ex_eq (ss.getD m ByteArray.empty)
     rw [hS6] at c6' HC6
     clear hs6 c6 hS6
     rw [hsl6] at l2
     clear hsl6
     have hle:(n:Int)≤(L:Int):=by omega
     have hw:wrap64 ((n:Int) - 1)=(m:Int):=by rw [IntWalk.wrap64_in _ ⟨by omega,by omega⟩];omega
     have hwq:IntKind.i64.wrap ((n:Int) - 1)=(m:Int):=by rw [IntKind.wrap_i64];omega
     have hm0:(0:Int)≤(m:Int):=by omega
     have hmi:(m:Int)<(L:Int):=by omega
     have hne:(S6.toList==S.toList)=false:=by
      rw [eq_str,decide_eq_false]
      intro e
      exact HNE.o (by rw [HC6.o,e])
     clear hnm hml0
     go_upto_region 7 with fail
     go_quiet (fail)
     go_upto_region 8 with fail
     refine wp_over (fun V=>Hid (TailR V (M+2) n v7 v8 ys us)∧Hid (Chg (fun k _=>M+2≤k) V0 V)) ⟨hid (HT.o.later below_drewN),hid (HCH.o.drewN _)⟩ ?_
     clear hgt hml c6' HC6 hle hw hwq hm0 hmi hne
    rotate_left
    focus
     have hle: ¬(n:Int)≤(L:Int):=by omega
     clear hnm hml0
     go_upto_region 7 with fail
     go_quiet (fail)
     go_upto_region 8 with fail
     refine wp_over (fun V=>Hid (TailR V (M+2) n v7 v8 ys us)∧Hid (Chg (fun k _=>M+2≤k) V0 V)) ⟨hid (HT.o.later below_drewN),hid (HCH.o.drewN _)⟩ ?_
     clear hgt hle
    all_goals
     clear t0 t1 t2 l1 l2 h0 h1
     clear HT HCH HWR HRR HHR HSIZ HLR
     rintro V ⟨HT,HCH⟩
     have HWR:Hid (Below M w V):=hid (HB1.o.trans (HCH.o.below (by have:=HB1.o.size;rw [HM.o] at this;exact this) (fun k i hk h=>by omega)))
     have HRR:Hid (V.heap[M+1]? =some (.cells #[.int .i64 0,.slice none 0 0,.slice none 0 0] 286 (0,0))):=hid ((HCH.o.other (M+1) (gS HR.o).1 (fun i h=>by omega)).trans HR.o)
     have HHR:Hid (V.heap[M]? =some (.cells #[.int .i64 x.h.dev,.int .i64 (q:Int),.string x.h.sum,.int .i64 x.h.idx,.slice x.a1 x.h.ps.length x.c1,.slice x.a2 x.h.qs.length x.c2] 94 (0,0))):=hid ((HCH.o.other M (gS HHB.o).1 (fun i h=>by omega)).trans HHB.o)
     have HSIZ:Hid (M+3≤V.heap.size):=hid (by have:=(gS HT.o.row).1;omega)
     have HLR:Hid (V.heap[g]? =some (.cells (lineRow l.pub (.slice al L cl) (.slice sl L cs) (l.sealed':Int) hx bf f0 f1 f2 f3 f4 f5 f6 f7 f8 f9 f10 f11 f12 f13 f14) 222 (0,0))):=hid ((HWR.o.block g (by rw [← HM.o];exact (gS HRW.o).1)).trans HRW.o)
     obtain ⟨t0,t1,t2⟩:=row3T HT.o.row
     obtain ⟨_,l1,l2,_⟩:=line_cells HLR.o
     obtain ⟨h0,h1,_⟩:=row6 HHR.o
     have HGN:givenOf (xs0.map EV.e) (nb S)=gv (nb S):=by rw [HGV.o]
     have HSM:Hid (S.size≤maxLen):=hid (by have:=HSZ.o;unfold maxLen;omega)
     have hlk0:=(HMP.o.later (by rw [HM.o];exact HWR.o)).look S HSM.o
     cases hgx:givenV xs0 (nb S) with
     | none=>
       have hgn:gv (nb S)=none:=by rw [← HGN,← givenV_of,hgx];rfl
       have HBN:Hid (back l.log gv x.h.dev n (nb S) (ys.map EV.e).reverse=none):=hid (by rw [HNM.o,back,if_neg HNE.o,hgn])
       have hlk:(Instr.lookup 226 (.map (some mb)) (.string S) true).run Tryz.prog V= .ok (.tuple #[.agg #[.int .i64 0,.int .i64 0,.int .i64 0,.int .i64 0,.slice none 0 0,.string ByteArray.empty],.bool false]) V:=by
        simp only [hgx] at hlk0
        exact hlk0
       clear hlk0 hgn hgx HGN
       go_upto_region 9 with fail
       obtain ⟨X,hX⟩:=ex_eq V.heap.size
       have HXS:Hid (M+3≤X):=hid (by rw [← hX];exact HSIZ.o)
       have HXO:Hid (∀b,v7.ownBlock=some b→b<X):=hid (fun b e=>by rw [← hX];exact (HT.o.es.lt _ e).2)
       refine wp_over (fun U=>Hid (U.heap[X]? =some (.cells #[.int .i64 0,.int .i64 0,.int .i64 0,.int .i64 0,.slice none 0 0,.string ByteArray.empty] 92 (0,0)))∧Hid (TailR U (M+2) n v7 v8 ys us)∧Hid (Chg (fun k _=>M+2≤k) V0 U)∧Hid (X<U.heap.size)) ⟨by rw [← hX];exact heap_alloc_new V _,HT.o.later ((Below.refl _ V).alloc (Nat.le_refl _) _),HCH.o.alloc _,by rw [← hX];show _<_;simp⟩ ?_
       rw [hX]
       clear hX hlk t0 t1 t2 h0 h1 l1 l2 HT HCH HWR HRR HHR HSIZ HLR
       rintro U ⟨HXR,HT,HCH,HXL⟩
       have HWR:Hid (Below M w U):=hid (HB1.o.trans (HCH.o.below (by have:=HB1.o.size;rw [HM.o] at this;exact this) (fun k i hk h=>by omega)))
       have HRR:Hid (U.heap[M+1]? =some (.cells #[.int .i64 0,.slice none 0 0,.slice none 0 0] 286 (0,0))):=hid ((HCH.o.other (M+1) (gS HR.o).1 (fun i h=>by omega)).trans HR.o)
       have HHR:Hid (U.heap[M]? =some (.cells #[.int .i64 x.h.dev,.int .i64 (q:Int),.string x.h.sum,.int .i64 x.h.idx,.slice x.a1 x.h.ps.length x.c1,.slice x.a2 x.h.qs.length x.c2] 94 (0,0))):=hid ((HCH.o.other M (gS HHB.o).1 (fun i h=>by omega)).trans HHB.o)
       have HSIZ:Hid (M+3≤U.heap.size):=hid (by have:=(gS HT.o.row).1;omega)
       have HLR:Hid (U.heap[g]? =some (.cells (lineRow l.pub (.slice al L cl) (.slice sl L cs) (l.sealed':Int) hx bf f0 f1 f2 f3 f4 f5 f6 f7 f8 f9 f10 f11 f12 f13 f14) 222 (0,0))):=hid ((HWR.o.block g (by rw [← HM.o];exact (gS HRW.o).1)).trans HRW.o)
       have HRX:Hid (U.heap[M+1]? =some (.cells #[.int .i64 0,.slice none 0 0,.slice none 0 0] 286 (0,0))):=HRR
       have HBX:Hid (Below M w U):=HWR
       obtain ⟨x0,x1,x2,x3,x4,x5⟩:=row6 HXR.o
       obtain ⟨t0,t1,t2⟩:=row3T HT.o.row
       obtain ⟨h0,h1,_⟩:=row6 HHR.o
       have HFN:Hid (findL l.log gv x.h=none):=hid (by
        unfold findL
        rw [if_neg (by rw [HQ.o];omega),show x.h.seq.toNat=q by rw [HQ.o];rfl,HBK.o,HBN.o])
       obtain ⟨r0,r1,r2⟩:=row3T HRX.o
       have fr:=fun i=>frozen_of_row _ _ i _ _ HRX.o
       go_wp2_with fail
       refine bodyPost_ret (results_cell_row_tmp (p:=6) (u:=7) rfl _ _ (M+1) 286 #[.int .i64 0,.slice none 0 0,.slice none 0 0] (0,0) _ (by rfl) (put3_row HRX.o) Tryz.underlying286 rfl (by kernel_rfl)) rfl ?_
       refine ⟨.int .i64 0,.slice none 0 0,.slice none 0 0,.bool false,rfl,?_,?_⟩
       ·rw [HM.o]
        exact (((HBX.o).setCell (p:=⟨M+1,0,none⟩) (Nat.le_succ M) _).setCell (p:=⟨M+1,1,none⟩) (Nat.le_succ M) _).setCell (p:=⟨M+1,2,none⟩) (Nat.le_succ M) _
       ·unfold FindOut
        exact .inl ⟨rfl,HFN.o,rfl,rfl,rfl⟩
     | some y=>
       have hgy:gv (nb S)=some y.e:=by rw [← HGN,← givenV_of,hgx];rfl
       have HYM:Hid (y ∈ xs0):=hid (givenV_mem hgx)
       have HYV:Hid (ValidE y.e∧sumE y.e=nb S):=hid (by
        obtain ⟨k1,k2⟩:=givenV_valid hgx
        exact ⟨(validE_iff _).1 k1,k2⟩)
       have HBY:Hid (back l.log gv x.h.dev n (nb S) (ys.map EV.e).reverse=if y.e.dev=x.h.dev∧y.e.seq=(n:Int) then back l.log gv x.h.dev m (nb y.e.prev) (y.e::(ys.map EV.e).reverse) else none):=hid (by
        have e1:=HNM.o
        subst e1
        rw [back,if_neg HNE.o,hgy])
       have hlk:(Instr.lookup 226 (.map (some mb)) (.string S) true).run Tryz.prog V= .ok (.tuple #[.agg #[.int .i64 y.e.dev,.int .i64 y.e.seq,.int .i64 y.e.kind,.int .i64 y.e.day,.slice y.a y.e.body.length y.c,.string y.e.prev],.bool true]) V:=by
        simp only [hgx] at hlk0
        exact hlk0
       clear hlk0 hgy hgx HGN
       by_cases hyd:y.e.dev=x.h.dev
       ·rw [hyd] at hlk HBY
        have HYD:=hid hyd
        clear hyd
        by_cases hys:y.e.seq=(n:Int)
        ·rw [hys] at hlk HBY
         have HYS:=hid hys
         clear hys
         have HBN:Hid (back l.log gv x.h.dev n (nb S) (ys.map EV.e).reverse=back l.log gv x.h.dev m (nb y.e.prev) (y.e::(ys.map EV.e).reverse)):=hid (by rw [HBY.o,if_pos ⟨rfl,rfl⟩])
         go_upto_region 9 with fail
         obtain ⟨X,hX⟩:=ex_eq V.heap.size
         have HXS:Hid (M+3≤X):=hid (by rw [← hX];exact HSIZ.o)
         have HXO:Hid (∀b,v7.ownBlock=some b→b<X):=hid (fun b e=>by rw [← hX];exact (HT.o.es.lt _ e).2)
         refine wp_over (fun U=>Hid (U.heap[X]? =some (.cells #[.int .i64 x.h.dev,.int .i64 (n:Int),.int .i64 y.e.kind,.int .i64 y.e.day,.slice y.a y.e.body.length y.c,.string y.e.prev] 92 (0,0)))∧Hid (TailR U (M+2) n v7 v8 ys us)∧Hid (Chg (fun k _=>M+2≤k) V0 U)∧Hid (X<U.heap.size)) ⟨by rw [← hX];exact heap_alloc_new V _,HT.o.later ((Below.refl _ V).alloc (Nat.le_refl _) _),HCH.o.alloc _,by rw [← hX];show _<_;simp⟩ ?_
         rw [hX]
         clear hX hlk t0 t1 t2 h0 h1 l1 l2 HT HCH HWR HRR HHR HSIZ HLR
         rintro U ⟨HXR,HT,HCH,HXL⟩
         have HWR:Hid (Below M w U):=hid (HB1.o.trans (HCH.o.below (by have:=HB1.o.size;rw [HM.o] at this;exact this) (fun k i hk h=>by omega)))
         have HRR:Hid (U.heap[M+1]? =some (.cells #[.int .i64 0,.slice none 0 0,.slice none 0 0] 286 (0,0))):=hid ((HCH.o.other (M+1) (gS HR.o).1 (fun i h=>by omega)).trans HR.o)
         have HHR:Hid (U.heap[M]? =some (.cells #[.int .i64 x.h.dev,.int .i64 (q:Int),.string x.h.sum,.int .i64 x.h.idx,.slice x.a1 x.h.ps.length x.c1,.slice x.a2 x.h.qs.length x.c2] 94 (0,0))):=hid ((HCH.o.other M (gS HHB.o).1 (fun i h=>by omega)).trans HHB.o)
         have HSIZ:Hid (M+3≤U.heap.size):=hid (by have:=(gS HT.o.row).1;omega)
         have HLR:Hid (U.heap[g]? =some (.cells (lineRow l.pub (.slice al L cl) (.slice sl L cs) (l.sealed':Int) hx bf f0 f1 f2 f3 f4 f5 f6 f7 f8 f9 f10 f11 f12 f13 f14) 222 (0,0))):=hid ((HWR.o.block g (by rw [← HM.o];exact (gS HRW.o).1)).trans HRW.o)
         have HRX:Hid (U.heap[M+1]? =some (.cells #[.int .i64 0,.slice none 0 0,.slice none 0 0] 286 (0,0))):=HRR
         have HBX:Hid (Below M w U):=HWR
         obtain ⟨x0,x1,x2,x3,x4,x5⟩:=row6 HXR.o
         obtain ⟨t0,t1,t2⟩:=row3T HT.o.row
         obtain ⟨h0,h1,_⟩:=row6 HHR.o
         have tf:=fun i=>frozen_of_row _ _ i _ _ HT.o.row
         have HYC:Hid (y.cells=[.int .i64 x.h.dev,.int .i64 (n:Int),.int .i64 y.e.kind,.int .i64 y.e.day,.slice y.a y.e.body.length y.c,.string y.e.prev]):=hid (by unfold EV.cells;rw [HYD.o,HYS.o])
         obtain ⟨K,hK⟩:=ex_eq ys.length
         have HKE:=hid hK
         have HK4:Hid (K≤4096):=hid (by omega)
         have HE7:Hid (U.ownsRow (M+2+1) 92 6 v7 K (evs ys)):=hid (by have:=HT.o.es;rwa [hK] at this)
         have HE8:Hid (U.ownsRow (M+2+1) 9 1 v8 K (strV us)):=hid (by have:=HT.o.ss;rwa [hK] at this)
         have HUL:Hid (us.length=K):=hid (by have:=congrArg List.length HT.o.sum;rw [← hK];simpa using this)
         clear hK
         go_upto_region 12 with (first
          | (at_builtin
             refine app_ents (w0:=U.alloc (.cells #[.int .i64 x.h.dev,.int .i64 (n:Int),.int .i64 y.e.kind,.int .i64 y.e.day,.slice y.a y.e.body.length y.c,.string y.e.prev] 92)) rfl _ _ rfl (M+2+1) v7 K ys (by rfl) (own_later HE7.o ((Below.refl _ U).alloc (Nat.le_refl _) _)) (by rw [World.size_alloc];have:=HSIZ.o;omega) (by have:=HK4.o;omega) ⟨U.heap.size,0,none⟩ 1 1 [y] (by rfl) rfl (by decide) (ent_new y HYC.o) (by omega) ?_
             intro bl7 cp7 w7 ho7 hg7 hat7
             have HO7:=hid ho7
             have HAT7:=hid hat7
             have HC7:Hid (Chg (fun k _=>some k=v7.ownBlock) U w7):=hid ((Chg.alloc1 U _).trans (Chg.of_grown hg7 (fun k _ e=>e.symm)))
             have HT7:Hid (w7.heap[M+2]? =some (.cells #[.int .i64 (n:Int),v7,v8] 286 (0,0))):=hid ((HC7.o.other (M+2) (by have:=HSIZ.o;omega) (fun i e=>by have:=(HE7.o.lt _ e.symm).1;omega)).trans HT.o.row)
             have HX7:Hid (w7.heap[X]? =some (.cells #[.int .i64 x.h.dev,.int .i64 (n:Int),.int .i64 y.e.kind,.int .i64 y.e.day,.slice y.a y.e.body.length y.c,.string y.e.prev] 92 (0,0))):=hid ((HC7.o.other X HXL.o (fun i e=>by have:=HXO.o _ e.symm;omega)).trans HXR.o)
             clear ho7 hg7 hat7 x0 x1 x2 x3 x4 x5 t0 t1 t2 h0 h1
             obtain ⟨x0,x1,x2,x3,x4,x5⟩:=row6 HX7.o
             obtain ⟨t0,t1,t2⟩:=row3T HT7.o
             have tf7:=fun i=>frozen_of_row _ _ i _ _ HT7.o))
         have HS7:Hid (w7.ownsRow (M+2+1) 9 1 v8 K (strV us)):=hid (ownsRow_keepM HE8.o HC7.o (fun b hb i e=>rows_apart HE8.o HE7.o (by decide) hb e))
         have HXB:Hid (bl7≠X):=hid (fun e=>by have:=HAT7.o;rw [e] at this;rcases this with h | h;exact absurd (HXO.o _ h.symm) (by omega);rw [World.size_alloc] at h;have:=HXL.o;omega)
         refine wp_over (fun U2=>Hid (U2.heap[M+2]? =some (.cells #[.int .i64 (n:Int),.slice (some ⟨bl7,0,none⟩) (K+1) cp7,v8] 286 (0,0)))∧Hid (U2.ownsRow (M+2+1) 92 6 (.slice (some ⟨bl7,0,none⟩) (K+1) cp7) (K+1) (evs (ys++[y])))∧Hid (U2.ownsRow (M+2+1) 9 1 v8 K (strV us))∧Hid (Chg (fun k _=>M+2≤k) V0 U2)∧Hid (U2.heap[X]? =some (.cells #[.int .i64 x.h.dev,.int .i64 (n:Int),.int .i64 y.e.kind,.int .i64 y.e.day,.slice y.a y.e.body.length y.c,.string y.e.prev] 92 (0,0)))) ⟨heap_setCell_same w7 (M+2) 1 _ _ _ HT7.o,ownsRow_keepM HO7.o (Chg.setCell1 (M:=fun k _=>k=M+2) _ _ _ _ rfl) (fun b hb i e=>by have:=(HO7.o.lt b hb).1;omega),ownsRow_keepM HS7.o (Chg.setCell1 (M:=fun k _=>k=M+2) _ _ _ _ rfl) (fun b hb i e=>by have:=(HS7.o.lt b hb).1;omega),hid ((HCH.o.trans (HC7.o.mono fun q i _ e=>by have:=(HE7.o.lt _ e.symm).1;omega)).setCell _ (Nat.le_refl _)),(Below.heap_setCell _ _ _ _ (by have:=HXS.o;show X≠M+2;omega)).trans HX7.o⟩ ?_
         clear x0 x1 x2 x3 x4 x5 t0 t1 t2 tf tf7
         rintro U2 ⟨HT2,HO2,HS2,HCH2,HX2⟩
         obtain ⟨x0,x1,x2,x3,x4,x5⟩:=row6 HX2.o
         obtain ⟨t0,t1,t2⟩:=row3T HT2.o
         have tf:=fun i=>frozen_of_row _ _ i _ _ HT2.o
         go_upto_region 13 with (first
          | (at_builtin
             refine app_strAt (w0:=U2) rfl _ _ rfl (M+2+1) v8 K us (by rfl) HS2.o (by have:=(gS HT2.o).1;omega) (by have:=HK4.o;omega) S 1 (by rfl) ?_
             intro bl8 cp8 w8 ho8 hg8 hat8
             have HO8:=hid ho8
             have HC8:Hid (Chg (fun k _=>some k=v8.ownBlock) U2 w8):=hid ((Chg.alloc1 U2 _).trans (Chg.of_grown hg8 (fun k _ e=>e.symm)))
             have HT8:Hid (w8.heap[M+2]? =some (.cells #[.int .i64 (n:Int),.slice (some ⟨bl7,0,none⟩) (K+1) cp7,v8] 286 (0,0))):=hid ((HC8.o.other (M+2) (gS HT2.o).1 (fun i e=>by have:=(HS2.o.lt _ e.symm).1;omega)).trans HT2.o)
             have HX8:Hid (w8.heap[X]? =some (.cells #[.int .i64 x.h.dev,.int .i64 (n:Int),.int .i64 y.e.kind,.int .i64 y.e.day,.slice y.a y.e.body.length y.c,.string y.e.prev] 92 (0,0))):=hid ((HC8.o.other X (gS HX2.o).1 (fun i e=>not_row_of HS2.o HX2.o (by decide) e)).trans HX2.o)
             clear ho8 hg8 hat8 x0 x1 x2 x3 x4 x5 t0 t1 t2 tf
             obtain ⟨x0,x1,x2,x3,x4,x5⟩:=row6 HX8.o
             obtain ⟨t0,t1,t2⟩:=row3T HT8.o
             have tf8:=fun i=>frozen_of_row _ _ i _ _ HT8.o))
         refine wp_over (fun U3=>Hid (TailR U3 (M+2) n (.slice (some ⟨bl7,0,none⟩) (K+1) cp7) (.slice (some ⟨bl8,0,none⟩) (K+1) cp8) (ys++[y]) (us++[S]))∧Hid (Chg (fun k _=>M+2≤k) V0 U3)∧Hid (U3.heap[X]? =some (.cells #[.int .i64 x.h.dev,.int .i64 (n:Int),.int .i64 y.e.kind,.int .i64 y.e.day,.slice y.a y.e.body.length y.c,.string y.e.prev] 92 (0,0)))) ⟨hid ⟨heap_setCell_same w8 (M+2) 2 _ _ _ HT8.o,by
          rw [List.length_append,HKE.o]
          exact ownsRow_keepM (ownsRow_keepM HO2.o HC8.o (fun b hb i e=>rows_apart HO2.o HS2.o (by decide) hb e)) (Chg.setCell1 (M:=fun k _=>k=M+2) _ _ _ _ rfl) (fun b hb i e=>by have:=(HO2.o.lt b hb).1;omega),by
          rw [List.length_append,HKE.o]
          exact ownsRow_keepM HO8.o (Chg.setCell1 (M:=fun k _=>k=M+2) _ _ _ _ rfl) (fun b hb i e=>by have:=(HO8.o.lt b hb).1;omega),by rw [List.map_append,List.map_append,HT.o.sum];show _++[nb S]=_++[sumE y.e];rw [HYV.o.2]⟩,hid ((HCH2.o.trans (HC8.o.mono fun q i _ e=>by have:=(HS2.o.lt _ e.symm).1;omega)).setCell _ (Nat.le_refl _)),(Below.heap_setCell _ _ _ _ (by have:=HXS.o;show X≠M+2;omega)).trans HX8.o⟩ ?_
         clear x0 x1 x2 x3 x4 x5 t0 t1 t2 tf8
         rintro U3 ⟨HT3,HCH3,HX3⟩
         obtain ⟨x0,x1,x2,x3,x4,x5⟩:=row6 HX3.o
         obtain ⟨t0,t1,t2⟩:=row3T HT3.o.row
         have tf:=fun i=>frozen_of_row _ _ i _ _ HT3.o.row
         go_wp2_with fail
         have HMI:Hid ((n:Int) - 1=(m:Int)):=hid (by have:=HNM.o;omega)
         have HW3:Hid ((U3.setCell ⟨M+2,0,none⟩ (.int .i64 ((n:Int) - 1))).heap[M+2]? =some (.cells #[.int .i64 (m:Int),.slice (some ⟨bl7,0,none⟩) (K+1) cp7,.slice (some ⟨bl8,0,none⟩) (K+1) cp8] 286 (0,0))):=hid (by rw [HMI.o];exact heap_setCell_same U3 (M+2) 0 _ _ _ HT3.o.row)
         go_roundw
         case rel=>exact ⟨m,y.e.prev,_,_,ys++[y],us++[S],rfl,by have:=HNM.o;rw [List.length_append,List.length_singleton];omega,hid ⟨HW3.o,ownsRow_keepM HT3.o.es (Chg.setCell1 (M:=fun k _=>k=M+2) _ _ _ _ rfl) (fun b hb i e=>by have:=(HT3.o.es.lt b hb).1;omega),ownsRow_keepM HT3.o.ss (Chg.setCell1 (M:=fun k _=>k=M+2) _ _ _ _ rfl) (fun b hb i e=>by have:=(HT3.o.ss.lt b hb).1;omega),HT3.o.sum⟩,hid (by rw [HYV.o.1.prev];split<;> omega),hid (by rw [HBK.o,HBN.o,List.map_append,List.reverse_append];rfl),hid (fun z hz=>by
          rcases List.mem_append.1 hz with h | h
          ·exact HYX.o z h
          ·rw [List.mem_singleton] at h;rw [h];exact HYM.o),hid (HCH3.o.setCell _ (Nat.le_refl _))⟩
         case measure=>
          rw [HCW.o,cellN_int (row3T HW3.o).1]
          have:=HNM.o
          omega
        ·have HBN:Hid (back l.log gv x.h.dev n (nb S) (ys.map EV.e).reverse=none):=hid (by rw [HBY.o,if_neg (fun h=>hys h.2)])
         have hne:(y.e.seq != (n:Int))=true:=by rw [bne_iff_ne];exact hys
         go_upto_region 9 with fail
         obtain ⟨X,hX⟩:=ex_eq V.heap.size
         have HXS:Hid (M+3≤X):=hid (by rw [← hX];exact HSIZ.o)
         have HXO:Hid (∀b,v7.ownBlock=some b→b<X):=hid (fun b e=>by rw [← hX];exact (HT.o.es.lt _ e).2)
         refine wp_over (fun U=>Hid (U.heap[X]? =some (.cells #[.int .i64 x.h.dev,.int .i64 y.e.seq,.int .i64 y.e.kind,.int .i64 y.e.day,.slice y.a y.e.body.length y.c,.string y.e.prev] 92 (0,0)))∧Hid (TailR U (M+2) n v7 v8 ys us)∧Hid (Chg (fun k _=>M+2≤k) V0 U)∧Hid (X<U.heap.size)) ⟨by rw [← hX];exact heap_alloc_new V _,HT.o.later ((Below.refl _ V).alloc (Nat.le_refl _) _),HCH.o.alloc _,by rw [← hX];show _<_;simp⟩ ?_
         rw [hX]
         clear hX hlk t0 t1 t2 h0 h1 l1 l2 HT HCH HWR HRR HHR HSIZ HLR
         rintro U ⟨HXR,HT,HCH,HXL⟩
         have HWR:Hid (Below M w U):=hid (HB1.o.trans (HCH.o.below (by have:=HB1.o.size;rw [HM.o] at this;exact this) (fun k i hk h=>by omega)))
         have HRR:Hid (U.heap[M+1]? =some (.cells #[.int .i64 0,.slice none 0 0,.slice none 0 0] 286 (0,0))):=hid ((HCH.o.other (M+1) (gS HR.o).1 (fun i h=>by omega)).trans HR.o)
         have HHR:Hid (U.heap[M]? =some (.cells #[.int .i64 x.h.dev,.int .i64 (q:Int),.string x.h.sum,.int .i64 x.h.idx,.slice x.a1 x.h.ps.length x.c1,.slice x.a2 x.h.qs.length x.c2] 94 (0,0))):=hid ((HCH.o.other M (gS HHB.o).1 (fun i h=>by omega)).trans HHB.o)
         have HSIZ:Hid (M+3≤U.heap.size):=hid (by have:=(gS HT.o.row).1;omega)
         have HLR:Hid (U.heap[g]? =some (.cells (lineRow l.pub (.slice al L cl) (.slice sl L cs) (l.sealed':Int) hx bf f0 f1 f2 f3 f4 f5 f6 f7 f8 f9 f10 f11 f12 f13 f14) 222 (0,0))):=hid ((HWR.o.block g (by rw [← HM.o];exact (gS HRW.o).1)).trans HRW.o)
         have HRX:Hid (U.heap[M+1]? =some (.cells #[.int .i64 0,.slice none 0 0,.slice none 0 0] 286 (0,0))):=HRR
         have HBX:Hid (Below M w U):=HWR
         obtain ⟨x0,x1,x2,x3,x4,x5⟩:=row6 HXR.o
         obtain ⟨t0,t1,t2⟩:=row3T HT.o.row
         obtain ⟨h0,h1,_⟩:=row6 HHR.o
         have HFN:Hid (findL l.log gv x.h=none):=hid (by
          unfold findL
          rw [if_neg (by rw [HQ.o];omega),show x.h.seq.toNat=q by rw [HQ.o];rfl,HBK.o,HBN.o])
         obtain ⟨r0,r1,r2⟩:=row3T HRX.o
         have fr:=fun i=>frozen_of_row _ _ i _ _ HRX.o
         go_wp2_with fail
         refine bodyPost_ret (results_cell_row_tmp (p:=6) (u:=7) rfl _ _ (M+1) 286 #[.int .i64 0,.slice none 0 0,.slice none 0 0] (0,0) _ (by rfl) (put3_row HRX.o) Tryz.underlying286 rfl (by kernel_rfl)) rfl ?_
         refine ⟨.int .i64 0,.slice none 0 0,.slice none 0 0,.bool false,rfl,?_,?_⟩
         ·rw [HM.o]
          exact (((HBX.o).setCell (p:=⟨M+1,0,none⟩) (Nat.le_succ M) _).setCell (p:=⟨M+1,1,none⟩) (Nat.le_succ M) _).setCell (p:=⟨M+1,2,none⟩) (Nat.le_succ M) _
         ·unfold FindOut
          exact .inl ⟨rfl,HFN.o,rfl,rfl,rfl⟩
       ·have HBN:Hid (back l.log gv x.h.dev n (nb S) (ys.map EV.e).reverse=none):=hid (by rw [HBY.o,if_neg (fun h=>hyd h.1)])
        have hne:(y.e.dev != x.h.dev)=true:=by rw [bne_iff_ne];exact hyd
        go_upto_region 9 with fail
        obtain ⟨X,hX⟩:=ex_eq V.heap.size
        have HXS:Hid (M+3≤X):=hid (by rw [← hX];exact HSIZ.o)
        have HXO:Hid (∀b,v7.ownBlock=some b→b<X):=hid (fun b e=>by rw [← hX];exact (HT.o.es.lt _ e).2)
        refine wp_over (fun U=>Hid (U.heap[X]? =some (.cells #[.int .i64 y.e.dev,.int .i64 y.e.seq,.int .i64 y.e.kind,.int .i64 y.e.day,.slice y.a y.e.body.length y.c,.string y.e.prev] 92 (0,0)))∧Hid (TailR U (M+2) n v7 v8 ys us)∧Hid (Chg (fun k _=>M+2≤k) V0 U)∧Hid (X<U.heap.size)) ⟨by rw [← hX];exact heap_alloc_new V _,HT.o.later ((Below.refl _ V).alloc (Nat.le_refl _) _),HCH.o.alloc _,by rw [← hX];show _<_;simp⟩ ?_
        rw [hX]
        clear hX hlk t0 t1 t2 h0 h1 l1 l2 HT HCH HWR HRR HHR HSIZ HLR
        rintro U ⟨HXR,HT,HCH,HXL⟩
        have HWR:Hid (Below M w U):=hid (HB1.o.trans (HCH.o.below (by have:=HB1.o.size;rw [HM.o] at this;exact this) (fun k i hk h=>by omega)))
        have HRR:Hid (U.heap[M+1]? =some (.cells #[.int .i64 0,.slice none 0 0,.slice none 0 0] 286 (0,0))):=hid ((HCH.o.other (M+1) (gS HR.o).1 (fun i h=>by omega)).trans HR.o)
        have HHR:Hid (U.heap[M]? =some (.cells #[.int .i64 x.h.dev,.int .i64 (q:Int),.string x.h.sum,.int .i64 x.h.idx,.slice x.a1 x.h.ps.length x.c1,.slice x.a2 x.h.qs.length x.c2] 94 (0,0))):=hid ((HCH.o.other M (gS HHB.o).1 (fun i h=>by omega)).trans HHB.o)
        have HSIZ:Hid (M+3≤U.heap.size):=hid (by have:=(gS HT.o.row).1;omega)
        have HLR:Hid (U.heap[g]? =some (.cells (lineRow l.pub (.slice al L cl) (.slice sl L cs) (l.sealed':Int) hx bf f0 f1 f2 f3 f4 f5 f6 f7 f8 f9 f10 f11 f12 f13 f14) 222 (0,0))):=hid ((HWR.o.block g (by rw [← HM.o];exact (gS HRW.o).1)).trans HRW.o)
        have HRX:Hid (U.heap[M+1]? =some (.cells #[.int .i64 0,.slice none 0 0,.slice none 0 0] 286 (0,0))):=HRR
        have HBX:Hid (Below M w U):=HWR
        obtain ⟨x0,x1,x2,x3,x4,x5⟩:=row6 HXR.o
        obtain ⟨t0,t1,t2⟩:=row3T HT.o.row
        obtain ⟨h0,h1,_⟩:=row6 HHR.o
        have HFN:Hid (findL l.log gv x.h=none):=hid (by
         unfold findL
         rw [if_neg (by rw [HQ.o];omega),show x.h.seq.toNat=q by rw [HQ.o];rfl,HBK.o,HBN.o])
        obtain ⟨r0,r1,r2⟩:=row3T HRX.o
        have fr:=fun i=>frozen_of_row _ _ i _ _ HRX.o
        go_wp2_with fail
        refine bodyPost_ret (results_cell_row_tmp (p:=6) (u:=7) rfl _ _ (M+1) 286 #[.int .i64 0,.slice none 0 0,.slice none 0 0] (0,0) _ (by rfl) (put3_row HRX.o) Tryz.underlying286 rfl (by kernel_rfl)) rfl ?_
        refine ⟨.int .i64 0,.slice none 0 0,.slice none 0 0,.bool false,rfl,?_,?_⟩
        ·rw [HM.o]
         exact (((HBX.o).setCell (p:=⟨M+1,0,none⟩) (Nat.le_succ M) _).setCell (p:=⟨M+1,1,none⟩) (Nat.le_succ M) _).setCell (p:=⟨M+1,2,none⟩) (Nat.le_succ M) _
        ·unfold FindOut
         exact .inl ⟨rfl,HFN.o,rfl,rfl,rfl⟩

theorem find_lit {G:Nat→Nat} {t g mb mn:Nat} {l:Lin} (xs0:List EV) (x:HV) (q:Nat) (hq:x.h.seq=(q:Int)) (hs32:x.h.sum.size=32) (hmx:l.log.length≤4096) (w:World) (h:LineAt w G t g l) (hM0:MapE w mb mn xs0):
    Calls Tryz.prog 223 #[.pointer (some ⟨g,0,none⟩),.map (some mb),.agg #[.int .i64 x.h.dev,.int .i64 (q:Int),.string x.h.sum,.int .i64 x.h.idx,.slice x.a1 x.h.ps.length x.c1,.slice x.a2 x.h.qs.length x.c2]] w fun e w'=> ∃(z:Int) (a7:Option Addr) (n7 c7:Nat) (a8:Option Addr) (n8 c8:Nat) (ok:Bool),e= .returned (.tuple #[.agg #[.int .i64 z,.slice a7 n7 c7,.slice a8 n8 c8],.bool ok])∧Below w.heap.size w w'∧
     FindOut w w' l.log (givenOf (xs0.map EV.e)) x.h xs0 (.int .i64 z) (.slice a7 n7 c7) (.slice a8 n8 c8) (.bool ok):=by
 refine (find_any xs0 x q hq hs32 hmx w h hM0).mono ?_
 rintro e w' ⟨v0,v7,v8,ok,rfl,hb,hf⟩
 unfold FindOut at hf
 rcases hf with ⟨rfl,h1,rfl,rfl,rfl⟩ | ⟨rfl,b,ys,us,rfl,h1,h2,h3,h4⟩
 ·exact ⟨0,none,0,0,none,0,0,false,rfl,hb,by unfold FindOut;exact .inl ⟨rfl,h1,rfl,rfl,rfl⟩⟩
 ·have e7: ∃a n c,v7= .slice a n c:=by
     rcases own_cases h2 with ⟨e,_⟩ | ⟨bl,cap,e⟩
     ·exact ⟨_,_,_,e⟩
     ·exact ⟨_,_,_,e⟩
  have e8: ∃a n c,v8= .slice a n c:=by
   rcases own_cases h3 with ⟨e,_⟩ | ⟨bl,cap,e⟩
   ·exact ⟨_,_,_,e⟩
   ·exact ⟨_,_,_,e⟩
  obtain ⟨a7,n7,c7,rfl⟩:=e7
  obtain ⟨a8,n8,c8,rfl⟩:=e8
  exact ⟨b,a7,n7,c7,a8,n8,c8,true,rfl,hb,by unfold FindOut;exact .inr ⟨rfl,b,ys,us,rfl,h1,h2,h3,h4⟩⟩
end Go.Proofs.YtndlihclgdkpaaaGreatDoor
namespace Go.Proofs.YtndlihclgdkpaaaGreatDoor
open Go.RowKit
open Go.Proofs.YtndlihclgdkpaaaGreatDoor.One

def stepM (B H:Int) (gv:List Nat→Option Ent) (ls:List Lin) (h:Hd):List Lin × Nat:=
 match ls[h.dev.toNat]? with
 | some l=>if 0≤h.dev∧SignedH B H (nb l.pub) h then (ls.set h.dev.toNat (mergeL l gv h).1,(mergeL l gv h).2) else (ls,0)
 | none=>(ls,0)
def foldM (B H:Int) (gv:List Nat→Option Ent) (ls:List Lin) (hs:List Hd):List Lin × Nat:=
 hs.foldl (fun q h=>((stepM B H gv q.1 h).1,q.2+(stepM B H gv q.1 h).2)) (ls,0)
theorem foldM_snoc (B H:Int) (gv:List Nat→Option Ent) (ls:List Lin) (hs:List Hd) (h:Hd):foldM B H gv ls (hs++[h])=((stepM B H gv (foldM B H gv ls hs).1 h).1,(foldM B H gv ls hs).2+(stepM B H gv (foldM B H gv ls hs).1 h).2):=by
 unfold foldM
 rw [List.foldl_append]
 rfl
def SmallL (l:Lin):Prop:=l.head.ps.length≤100000000∧l.head.qs.length≤100000000
def SmallH (h:Hd):Prop:=h.ps.length≤100000000∧h.qs.length≤100000000
theorem mergeL_small {l:Lin} {gv:List Nat→Option Ent} {h:Hd} (hl:SmallL l) (hh:SmallH h):SmallL (mergeL l gv h).1:=by
 unfold mergeL
 split
 ·exact hl
 ·split
  ·cases l.fork<;> exact hl
  ·split
   ·exact hl
   ·exact hh
structure GoodS (B H:Int) (ls:List Lin):Prop where
 good: ∀(i:Nat) (h:i<ls.length),GoodL B H (i:Int) ls[i]
 small: ∀l ∈ ls,SmallL l
theorem GoodS.set {B H:Int} {ls:List Lin} (hg:GoodS B H ls) (d:Nat) (l:Lin) (h:GoodL B H (d:Int) l) (hs:SmallL l):GoodS B H (ls.set d l):=by
 refine ⟨fun i hi=> ?_,fun x hx=> ?_⟩
 ·by_cases e:d=i
  ·subst e
   rw [List.getElem_set_self]
   exact h
  ·rw [List.getElem_set_ne e]
   exact hg.good i (by simpa using hi)
 ·rcases List.mem_or_eq_of_mem_set hx with h1 | h1
  ·exact hg.small x h1
  ·rw [h1];exact hs
structure KeptS (ls ls':List Lin):Prop where
 len:ls'.length=ls.length
 line: ∀(i:Nat) (h:i<ls.length) (h':i<ls'.length),ls[i].sealed'≤ls'[i].sealed'∧ls'[i].log.take ls[i].sealed'=ls[i].log.take ls[i].sealed'∧ls'[i].pub=ls[i].pub
theorem KeptS.refl (ls:List Lin):KeptS ls ls:=⟨rfl,fun _ _ _=>⟨Nat.le_refl _,rfl,rfl⟩⟩
theorem KeptS.trans {ls ls' ls'':List Lin} (h:KeptS ls ls') (k:KeptS ls' ls''):KeptS ls ls'':=by
 refine ⟨k.len.trans h.len,fun i hi hi'=> ?_⟩
 have hm:i<ls'.length:=by rw [h.len];exact hi
 obtain ⟨a1,a2,a3⟩:=h.line i hi hm
 obtain ⟨b1,b2,b3⟩:=k.line i hm hi'
 refine ⟨Nat.le_trans a1 b1,?_,b3.trans a3⟩
 have h1:=congrArg (List.take ls[i].sealed') b2
 rw [List.take_take,List.take_take,Nat.min_eq_left a1] at h1
 exact h1.trans a2
theorem KeptS.set {ls:List Lin} (d:Nat) (l:Lin) (hd:d<ls.length) (h:ls[d].sealed'≤l.sealed'∧l.log.take ls[d].sealed'=ls[d].log.take ls[d].sealed'∧l.pub=ls[d].pub):KeptS ls (ls.set d l):=by
 refine ⟨by simp,fun i hi hi'=> ?_⟩
 by_cases e:d=i
 ·subst e
  rw [List.getElem_set_self]
  exact h
 ·rw [List.getElem_set_ne e]
  exact ⟨Nat.le_refl _,rfl,rfl⟩
theorem stepM_good {B H:Int} {gv:List Nat→Option Ent} {ls:List Lin} {h:Hd} (hg: ∀s e,gv s=some e→ValidE e∧sumE e=s) (hl:GoodS B H ls) (hh:SmallH h):GoodS B H (stepM B H gv ls h).1∧KeptS ls (stepM B H gv ls h).1:=by
 unfold stepM
 cases e:ls[h.dev.toNat]? with
 | none=>exact ⟨hl,KeptS.refl _⟩
 | some l=>
   simp only
   split
   ·rename_i hc
    obtain ⟨hd,rfl⟩:=List.getElem?_eq_some_iff.1 e
    have hdv:h.dev=((h.dev.toNat:Nat):Int):=(Int.toNat_of_nonneg hc.1).symm
    have h1:=mergeL_good hg (hl.good _ hd) hdv hc.2
    obtain ⟨k1,k2,k3,_⟩:=mergeL_keep hg (hl.good _ hd) hdv hc.2
    exact ⟨hl.set _ _ h1 (mergeL_small (hl.small _ (List.getElem_mem hd)) hh),KeptS.set _ _ hd ⟨k1,k2,k3⟩⟩
   ·exact ⟨hl,KeptS.refl _⟩
theorem foldM_go {B H:Int} {gv:List Nat→Option Ent} (hg: ∀s e,gv s=some e→ValidE e∧sumE e=s): ∀(hs:List Hd) (ls:List Lin) (n:Nat),GoodS B H ls→(∀h ∈ hs,SmallH h)→GoodS B H (hs.foldl (fun q h=>((stepM B H gv q.1 h).1,q.2+(stepM B H gv q.1 h).2)) (ls,n)).1∧KeptS ls (hs.foldl (fun q h=>((stepM B H gv q.1 h).1,q.2+(stepM B H gv q.1 h).2)) (ls,n)).1
 | [],ls,n,hl,_=>⟨hl,KeptS.refl _⟩
 | h::hs,ls,n,hl,hh=>by
   rw [List.foldl_cons]
   obtain ⟨m1,m2⟩:=stepM_good hg hl (hh h (List.mem_cons_self ..))
   obtain ⟨k1,k2⟩:=foldM_go hg hs _ (n+(stepM B H gv ls h).2) m1 (fun x hx=>hh x (List.mem_cons_of_mem _ hx))
   exact ⟨k1,m2.trans k2⟩
theorem foldM_good {B H:Int} {gv:List Nat→Option Ent} {ls:List Lin} (hg: ∀s e,gv s=some e→ValidE e∧sumE e=s) (hl:GoodS B H ls) (hs:List Hd) (hh: ∀h ∈ hs,SmallH h):GoodS B H (foldM B H gv ls hs).1∧KeptS ls (foldM B H gv ls hs).1:=foldM_go hg hs ls 0 hl hh
end Go.Proofs.YtndlihclgdkpaaaGreatDoor
namespace Go.Proofs.YtndlihclgdkpaaaGreatDoor
open Go.RowKit
open Kit (Chg)
open Sha (v)
open Go.Proofs.YtndlihclgdkpaaaGreatDoor.One

theorem findL_len {log:List Ent} {gv:List Nat→Option Ent} {h:Hd} (hg: ∀s e,gv s=some e→ValidE e∧sumE e=s) {b:Nat} {es:List Ent} (hf:findL log gv h=some (b,es)):b+es.length=h.seq.toNat∧b≤log.length∧h.seq≤4096:=by
 unfold findL at hf
 split at hf
 ·cases hf
 ·rename_i hm
  split at hf
  ·rename_i b' es' hb
   split at hf
   ·cases hf
    obtain ⟨new,h1,h2,h3,_⟩:=back_spec hg _ _ _ _ _ hb
    rw [List.append_nil] at h1
    subst h1
    exact ⟨h2,h3,by omega⟩
   ·cases hf
  ·cases hf
theorem ents_of_own {w:World} {base n c:Nat} {a:Option Addr} {ys:List EV} (h:w.ownsRow base 92 6 (.slice a n c) n (evs ys)) (hy: ∀y ∈ ys,(y.a=none→y.c=0)∧BytesAt w y.a y.e.body):EntsAt w a (ys.map EV.e):=by
 obtain ⟨hn,a',cap,he,h5,h6,h7,h8⟩:=sixes_cells (f:=EV.cells) (fun _=>rfl) h
 injection he with e1 e2 e3
 subst e1
 by_cases hz:ys=[]
 ·subst hz;exact .inl rfl
 ·obtain ⟨b,hb,_,_⟩:=h8 0 (by cases ys with | nil=>exact absurd rfl hz | cons x l=>simp)
  refine .inr ⟨b,0,hb,fun i hi=> ?_⟩
  have hi':i<ys.length:=by simpa using hi
  obtain ⟨b',hb',_,hc⟩:=h8 i hi'
  obtain rfl:b'=b:=by rw [hb] at hb';cases hb';rfl
  rw [List.getElem_map,Nat.zero_add]
  obtain ⟨k1,k2⟩:=hy _ (List.getElem_mem hi')
  exact ⟨_,_,_,rfl,k1,k2,hc 0 (by decide),hc 1 (by decide),hc 2 (by decide),hc 3 (by decide),hc 4 (by decide),hc 5 (by decide)⟩
theorem own_src {w:World} {base n c b:Nat} {ys:List EV} (h:w.ownsRow base 92 6 (.slice (some ⟨b,0,none⟩) n c) n (evs ys)): ∀j u,(evs ys)[j]? =some u→w.cell? ((⟨b,0,none⟩:Addr).add j)=some u:=fun j u hu=>by
 have hn:ys.length=n:=by have:=h.1;rw [evs_len] at this;omega
 have hj:j<ys.length*6:=by
  have:=(List.getElem?_eq_some_iff.1 hu).1
  rwa [evs_len] at this
 obtain ⟨_,a',cap,he,_,_,_,h8⟩:=sixes_cells (f:=EV.cells) (fun _=>rfl) h
 injection he with e1 e2 e3
 obtain ⟨b',hb',_,hc⟩:=h8 (j/6) (by omega)
 rw [← e1] at hb'
 injection hb' with hb'
 injection hb' with hb'
 subst hb'
 have h1:=sixes_get (f:=EV.cells) (fun _=>rfl) ys (j/6) (by omega) (j % 6) (Nat.mod_lt _ (by decide))
 have h2:=hc (j % 6) (Nat.mod_lt _ (by decide))
 rw [show j/6*6+j % 6=j by omega] at h1 h2
 rw [add_none,Nat.zero_add,h2,← h1]
 exact hu
theorem own_src_take {w:World} {base n c b k:Nat} {ys:List EV} (h:w.ownsRow base 92 6 (.slice (some ⟨b,0,none⟩) n c) n (evs ys)): ∀j u,(evs (ys.take k))[j]? =some u→w.cell? ((⟨b,0,none⟩:Addr).add j)=some u:=fun j u hu=>by
 refine own_src h j u ?_
 have h1:evs (ys.take k)=(evs ys).take (k*6):=(sixes_take (f:=EV.cells) (fun _=>rfl) ys k).symm
 rw [h1,List.getElem?_take] at hu
 split at hu
 ·exact hu
 ·cases hu
theorem strs_src {w:World} {base n c b:Nat} {ss:List ByteArray} (h:w.ownsRow base 9 1 (.slice (some ⟨b,0,none⟩) n c) n (strV ss)): ∀j u,(strV ss)[j]? =some u→w.cell? ((⟨b,0,none⟩:Addr).add j)=some u:=fun j u hu=>by
 obtain ⟨a,cs,he,hl,_,hS,_,_⟩:=strs_of_own h
 injection he with e1 e2 e3
 have hj:j<ss.length:=by
  have:=(List.getElem?_eq_some_iff.1 hu).1
  rwa [strV_length] at this
 rcases hS with h0 | ⟨b',o,e,hs⟩
 ·rw [h0] at hj;simp at hj
 ·rw [← e1] at e
  injection e with e
  injection e with e4 e5
  have h1:=hs j hj
  rw [← e4,← e5] at h1
  rw [add_none,h1,← hu]
  unfold strV
  rw [List.getElem?_map,lE hj,lD,lE hj]
  rfl
theorem strs_src_take {w:World} {base n c b k:Nat} {ss:List ByteArray} (h:w.ownsRow base 9 1 (.slice (some ⟨b,0,none⟩) n c) n (strV ss)): ∀j u,(strV (ss.take k))[j]? =some u→w.cell? ((⟨b,0,none⟩:Addr).add j)=some u:=fun j u hu=>by
 refine strs_src h j u ?_
 have h1:strV (ss.take k)=(strV ss).take k:=by unfold strV;rw [List.map_take]
 rw [h1,List.getElem?_take] at hu
 split at hu
 ·exact hu
 ·cases hu
section
variable {a:Act} {Q:Exit→Act→World→Prop} {K:Act→World→Prop} {o:Oper}
theorem wp_clip_ents {w0:World} (s x:Operand) (ho:o.op= .call { callee:= .builtin .append,args:= #[s,x],argTypes:= #[111, 111] })
    (b:Option Addr) (n:Nat) (ys:List EV) (hs:a.eval s= .slice b n n) (hy:ys.length=n) (hold:(b=none∧n=0)∨ ∃b',b=some b'∧ ∀j u,(evs ys)[j]? =some u→w0.cell? (b'.add j)=some u) (hn:n≤1000000)
    (ad:Addr) (m c:Nat) (zs:List EV) (hx:a.eval x= .slice (some ad) m c) (hm:zs.length=m) (hm2:m≤1000000) (hm0:0<m) (hnew: ∀j u,(evs zs)[j]? =some u→w0.cell? (ad.add j)=some u)
    (h: ∀cap w',w'.ownsRow w0.heap.size 92 6 (.slice (some ⟨w0.heap.size,0,none⟩) (n+m) cap) (n+m) (evs (ys++zs))→Below w0.heap.size w0 w'→K (a.put o.dst (.slice (some ⟨w0.heap.size,0,none⟩) (n+m) cap)) w'):o.wp Tryz.prog a w0 K Q:=by
 rcases hold with ⟨rfl,rfl⟩ | ⟨b',rfl,hold⟩
 ·have hz:ys=[]:=List.eq_nil_of_length_eq_zero hy
  subst hz
  obtain ⟨bl,cap,w',hr,h2,h3,h4⟩:=run_app_ents w0 o.type w0.heap.size (.slice none 0 0) 0 [] (World.ownsRow_nil _ _ _ _) (Nat.le_refl _) (by decide) ad m c zs hm hm2 hnew (by omega)
  unfold Oper.wp execOp
  simp only [ho,resolve,invoke,builtin,Sem.run_bind,Sem.run_pure,Result.andThen_ok,List.map_toArray,List.map_cons,List.map_nil,hs,hx,hr]
  have e:bl=w0.heap.size:=by
   rcases h4 with h | h
   ·cases h
   ·exact h
  subst e
  exact h cap w' h2 ((Below.refl _ w0).grown h3 (Nat.le_refl _) (fun k hk=>by cases hk))
 ·obtain ⟨cap,w',hr,h2,h3⟩:=run_app_full w0 o.type b' n ys hy hold hn ad m c zs hm hm2 hm0 hnew
  unfold Oper.wp execOp
  simp only [ho,resolve,invoke,builtin,Sem.run_bind,Sem.run_pure,Result.andThen_ok,List.map_toArray,List.map_cons,List.map_nil,hs,hx,hr]
  exact h cap w' h2 h3
theorem wp_clip_strs {w0:World} (s x:Operand) (ho:o.op= .call { callee:= .builtin .append,args:= #[s,x],argTypes:= #[43, 43] })
    (b:Option Addr) (n:Nat) (ys:List ByteArray) (hs:a.eval s= .slice b n n) (hy:ys.length=n) (hold:(b=none∧n=0)∨ ∃b',b=some b'∧ ∀j u,(strV ys)[j]? =some u→w0.cell? (b'.add j)=some u) (hn:n≤1000000)
    (ad:Addr) (m c:Nat) (zs:List ByteArray) (hx:a.eval x= .slice (some ad) m c) (hm:zs.length=m) (hm2:m≤1000000) (hm0:0<m) (hnew: ∀j u,(strV zs)[j]? =some u→w0.cell? (ad.add j)=some u)
    (h: ∀cap w',w'.ownsRow w0.heap.size 9 1 (.slice (some ⟨w0.heap.size,0,none⟩) (n+m) cap) (n+m) (strV (ys++zs))→Below w0.heap.size w0 w'→K (a.put o.dst (.slice (some ⟨w0.heap.size,0,none⟩) (n+m) cap)) w'):o.wp Tryz.prog a w0 K Q:=by
 rcases hold with ⟨rfl,rfl⟩ | ⟨b',rfl,hold⟩
 ·have hz:ys=[]:=List.eq_nil_of_length_eq_zero hy
  subst hz
  obtain ⟨i0,hi,hz0,hz1,hz2⟩:=info_parts Tryz.info9
  obtain ⟨v',w',hr,h2,h3,_,h5⟩:=run_append_own_at (P:= Tryz.prog) w0 w0.heap.size 43 o.type 9 i0 (.string ByteArray.empty) 1 16 Tryz.underlying43 hi hz0 hz1 hz2 rfl (by decide) (.slice none 0 0) 0 [] (World.ownsRow_nil _ _ _ _) ad m c (strV zs) (by rw [strV_length];omega) hnew (fun u hu=>by unfold strV at hu;obtain ⟨s,_,rfl⟩:=List.mem_map.1 hu;rfl) (by unfold maxLen;omega) (by omega) (Nat.le_refl _)
  rw [Nat.zero_add] at h2
  obtain ⟨bl,cap,rfl⟩:=own_some h2 hm0
  unfold Oper.wp execOp
  simp only [ho,resolve,invoke,builtin,Sem.run_bind,Sem.run_pure,Result.andThen_ok,List.map_toArray,List.map_cons,List.map_nil,hs,hx,hr]
  have e:bl=w0.heap.size:=by
   rcases h5 with h | h
   ·cases h
   ·injection h with h
  subst e
  have h6:=h cap w' (by rw [Nat.zero_add];exact h2) ((Below.refl _ w0).grown h3 (Nat.le_refl _) (fun k hk=>by cases hk))
  rw [Nat.zero_add] at h6
  exact h6
 ·obtain ⟨cap,w',hr,h2,h3⟩:=run_appS_full w0 o.type b' n ys hy hold hn ad m c zs hm hm2 hm0 hnew
  unfold Oper.wp execOp
  simp only [ho,resolve,invoke,builtin,Sem.run_bind,Sem.run_pure,Result.andThen_ok,List.map_toArray,List.map_cons,List.map_nil,hs,hx,hr]
  exact h cap w' h2 h3
end
theorem sub6_id {a:Option Addr} {n k:Nat} (h:(a=none∧n=0)∨ ∃b,a=some ⟨b,0,none⟩):sub6 a 0 k=a:=by
 rcases h with ⟨rfl,_⟩ | ⟨b,rfl⟩
 ·unfold sub6;split<;> rfl
 ·exact sub6_zero
theorem subA_id {a:Option Addr} {n k:Nat} (h:(a=none∧n=0)∨ ∃b,a=some ⟨b,0,none⟩):subA a 0 k=a:=by
 rcases h with ⟨rfl,_⟩ | ⟨b,rfl⟩
 ·unfold subA;split<;> rfl
 ·exact subA_zero
theorem line_cellsF {w:World} {g:Nat} {pub:ByteArray} {vl vs:Value} {sd:Int} {h:HV} {fk:Bool} {f0 f1 f2 f3 f4 f5 f6 f7 f8 f9 f10 f11 f12 f13 f14:Value} (hg:w.heap[g]? =some (.cells (lineRow pub vl vs sd h fk f0 f1 f2 f3 f4 f5 f6 f7 f8 f9 f10 f11 f12 f13 f14) 222 (0,0))):
    w.cell? ⟨g,11,none⟩=some f0∧w.cell? ⟨g,12,none⟩=some f1∧w.cell? ⟨g,13,none⟩=some f2∧w.cell? ⟨g,14,none⟩=some f3∧w.cell? ⟨g,15,none⟩=some f4∧w.cell? ⟨g,16,none⟩=some f5∧w.cell? ⟨g,17,none⟩=some f6∧w.cell? ⟨g,18,none⟩=some f7∧w.cell? ⟨g,19,none⟩=some f8∧w.cell? ⟨g,20,none⟩=some f9∧w.cell? ⟨g,21,none⟩=some f10∧w.cell? ⟨g,22,none⟩=some f11∧w.cell? ⟨g,23,none⟩=some f12∧w.cell? ⟨g,24,none⟩=some f13∧w.cell? ⟨g,25,none⟩=some f14∧ ∀i,w.frozen? ⟨g,i,none⟩=false:=by
 have k: ∀i,w.cell? ⟨g,i,none⟩=(lineRow pub vl vs sd h fk f0 f1 f2 f3 f4 f5 f6 f7 f8 f9 f10 f11 f12 f13 f14)[i]? :=fun i=>cell_of_row _ _ _ _ _ _ hg
 exact ⟨k 11,k 12,k 13,k 14,k 15,k 16,k 17,k 18,k 19,k 20,k 21,k 22,k 23,k 24,k 25,fun i=>frozen_of_row _ _ i _ _ hg⟩
theorem line_putF {w:World} {g:Nat} {pub:ByteArray} {vl vs:Value} {sd:Int} {h:HV} {fk:Bool} {f0 f1 f2 f3 f4 f5 f6 f7 f8 f9 f10 f11 f12 f13 f14:Value} (x0 x1 x2 x3 x4 x5 x6 x7 x8 x9 x10 x11 x12 x13 x14:Value) (hg:w.heap[g]? =some (.cells (lineRow pub vl vs sd h fk f0 f1 f2 f3 f4 f5 f6 f7 f8 f9 f10 f11 f12 f13 f14) 222 (0,0))):
    ((((((((((((((((w.setCell ⟨g,11,none⟩ x0).setCell ⟨g,12,none⟩ x1).setCell ⟨g,13,none⟩ x2).setCell ⟨g,14,none⟩ x3).setCell ⟨g,15,none⟩ x4).setCell ⟨g,16,none⟩ x5).setCell ⟨g,17,none⟩ x6).setCell ⟨g,18,none⟩ x7).setCell ⟨g,19,none⟩ x8).setCell ⟨g,20,none⟩ x9).setCell ⟨g,21,none⟩ x10).setCell ⟨g,22,none⟩ x11).setCell ⟨g,23,none⟩ x12).setCell ⟨g,24,none⟩ x13).setCell ⟨g,25,none⟩ x14)).heap[g]? =some (.cells (lineRow pub vl vs sd h fk x0 x1 x2 x3 x4 x5 x6 x7 x8 x9 x10 x11 x12 x13 x14) 222 (0,0)):=by
 have e0:(w.setCell ⟨g,11,none⟩ x0).heap[g]? =some (.cells (lineRow pub vl vs sd h fk x0 f1 f2 f3 f4 f5 f6 f7 f8 f9 f10 f11 f12 f13 f14) 222 (0,0)):=heap_setCell_same w g 11 _ _ _ hg
 have e1:((w.setCell ⟨g,11,none⟩ x0).setCell ⟨g,12,none⟩ x1).heap[g]? =some (.cells (lineRow pub vl vs sd h fk x0 x1 f2 f3 f4 f5 f6 f7 f8 f9 f10 f11 f12 f13 f14) 222 (0,0)):=heap_setCell_same (w.setCell ⟨g,11,none⟩ x0) g 12 _ _ _ e0
 have e2:(((w.setCell ⟨g,11,none⟩ x0).setCell ⟨g,12,none⟩ x1).setCell ⟨g,13,none⟩ x2).heap[g]? =some (.cells (lineRow pub vl vs sd h fk x0 x1 x2 f3 f4 f5 f6 f7 f8 f9 f10 f11 f12 f13 f14) 222 (0,0)):=heap_setCell_same ((w.setCell ⟨g,11,none⟩ x0).setCell ⟨g,12,none⟩ x1) g 13 _ _ _ e1
 have e3:((((w.setCell ⟨g,11,none⟩ x0).setCell ⟨g,12,none⟩ x1).setCell ⟨g,13,none⟩ x2).setCell ⟨g,14,none⟩ x3).heap[g]? =some (.cells (lineRow pub vl vs sd h fk x0 x1 x2 x3 f4 f5 f6 f7 f8 f9 f10 f11 f12 f13 f14) 222 (0,0)):=heap_setCell_same (((w.setCell ⟨g,11,none⟩ x0).setCell ⟨g,12,none⟩ x1).setCell ⟨g,13,none⟩ x2) g 14 _ _ _ e2
 have e4:(((((w.setCell ⟨g,11,none⟩ x0).setCell ⟨g,12,none⟩ x1).setCell ⟨g,13,none⟩ x2).setCell ⟨g,14,none⟩ x3).setCell ⟨g,15,none⟩ x4).heap[g]? =some (.cells (lineRow pub vl vs sd h fk x0 x1 x2 x3 x4 f5 f6 f7 f8 f9 f10 f11 f12 f13 f14) 222 (0,0)):=heap_setCell_same ((((w.setCell ⟨g,11,none⟩ x0).setCell ⟨g,12,none⟩ x1).setCell ⟨g,13,none⟩ x2).setCell ⟨g,14,none⟩ x3) g 15 _ _ _ e3
 have e5:((((((w.setCell ⟨g,11,none⟩ x0).setCell ⟨g,12,none⟩ x1).setCell ⟨g,13,none⟩ x2).setCell ⟨g,14,none⟩ x3).setCell ⟨g,15,none⟩ x4).setCell ⟨g,16,none⟩ x5).heap[g]? =some (.cells (lineRow pub vl vs sd h fk x0 x1 x2 x3 x4 x5 f6 f7 f8 f9 f10 f11 f12 f13 f14) 222 (0,0)):=heap_setCell_same (((((w.setCell ⟨g,11,none⟩ x0).setCell ⟨g,12,none⟩ x1).setCell ⟨g,13,none⟩ x2).setCell ⟨g,14,none⟩ x3).setCell ⟨g,15,none⟩ x4) g 16 _ _ _ e4
 have e6:(((((((w.setCell ⟨g,11,none⟩ x0).setCell ⟨g,12,none⟩ x1).setCell ⟨g,13,none⟩ x2).setCell ⟨g,14,none⟩ x3).setCell ⟨g,15,none⟩ x4).setCell ⟨g,16,none⟩ x5).setCell ⟨g,17,none⟩ x6).heap[g]? =some (.cells (lineRow pub vl vs sd h fk x0 x1 x2 x3 x4 x5 x6 f7 f8 f9 f10 f11 f12 f13 f14) 222 (0,0)):=heap_setCell_same ((((((w.setCell ⟨g,11,none⟩ x0).setCell ⟨g,12,none⟩ x1).setCell ⟨g,13,none⟩ x2).setCell ⟨g,14,none⟩ x3).setCell ⟨g,15,none⟩ x4).setCell ⟨g,16,none⟩ x5) g 17 _ _ _ e5
 have e7:((((((((w.setCell ⟨g,11,none⟩ x0).setCell ⟨g,12,none⟩ x1).setCell ⟨g,13,none⟩ x2).setCell ⟨g,14,none⟩ x3).setCell ⟨g,15,none⟩ x4).setCell ⟨g,16,none⟩ x5).setCell ⟨g,17,none⟩ x6).setCell ⟨g,18,none⟩ x7).heap[g]? =some (.cells (lineRow pub vl vs sd h fk x0 x1 x2 x3 x4 x5 x6 x7 f8 f9 f10 f11 f12 f13 f14) 222 (0,0)):=heap_setCell_same (((((((w.setCell ⟨g,11,none⟩ x0).setCell ⟨g,12,none⟩ x1).setCell ⟨g,13,none⟩ x2).setCell ⟨g,14,none⟩ x3).setCell ⟨g,15,none⟩ x4).setCell ⟨g,16,none⟩ x5).setCell ⟨g,17,none⟩ x6) g 18 _ _ _ e6
 have e8:(((((((((w.setCell ⟨g,11,none⟩ x0).setCell ⟨g,12,none⟩ x1).setCell ⟨g,13,none⟩ x2).setCell ⟨g,14,none⟩ x3).setCell ⟨g,15,none⟩ x4).setCell ⟨g,16,none⟩ x5).setCell ⟨g,17,none⟩ x6).setCell ⟨g,18,none⟩ x7).setCell ⟨g,19,none⟩ x8).heap[g]? =some (.cells (lineRow pub vl vs sd h fk x0 x1 x2 x3 x4 x5 x6 x7 x8 f9 f10 f11 f12 f13 f14) 222 (0,0)):=heap_setCell_same ((((((((w.setCell ⟨g,11,none⟩ x0).setCell ⟨g,12,none⟩ x1).setCell ⟨g,13,none⟩ x2).setCell ⟨g,14,none⟩ x3).setCell ⟨g,15,none⟩ x4).setCell ⟨g,16,none⟩ x5).setCell ⟨g,17,none⟩ x6).setCell ⟨g,18,none⟩ x7) g 19 _ _ _ e7
 have e9:((((((((((w.setCell ⟨g,11,none⟩ x0).setCell ⟨g,12,none⟩ x1).setCell ⟨g,13,none⟩ x2).setCell ⟨g,14,none⟩ x3).setCell ⟨g,15,none⟩ x4).setCell ⟨g,16,none⟩ x5).setCell ⟨g,17,none⟩ x6).setCell ⟨g,18,none⟩ x7).setCell ⟨g,19,none⟩ x8).setCell ⟨g,20,none⟩ x9).heap[g]? =some (.cells (lineRow pub vl vs sd h fk x0 x1 x2 x3 x4 x5 x6 x7 x8 x9 f10 f11 f12 f13 f14) 222 (0,0)):=heap_setCell_same (((((((((w.setCell ⟨g,11,none⟩ x0).setCell ⟨g,12,none⟩ x1).setCell ⟨g,13,none⟩ x2).setCell ⟨g,14,none⟩ x3).setCell ⟨g,15,none⟩ x4).setCell ⟨g,16,none⟩ x5).setCell ⟨g,17,none⟩ x6).setCell ⟨g,18,none⟩ x7).setCell ⟨g,19,none⟩ x8) g 20 _ _ _ e8
 have e10:(((((((((((w.setCell ⟨g,11,none⟩ x0).setCell ⟨g,12,none⟩ x1).setCell ⟨g,13,none⟩ x2).setCell ⟨g,14,none⟩ x3).setCell ⟨g,15,none⟩ x4).setCell ⟨g,16,none⟩ x5).setCell ⟨g,17,none⟩ x6).setCell ⟨g,18,none⟩ x7).setCell ⟨g,19,none⟩ x8).setCell ⟨g,20,none⟩ x9).setCell ⟨g,21,none⟩ x10).heap[g]? =some (.cells (lineRow pub vl vs sd h fk x0 x1 x2 x3 x4 x5 x6 x7 x8 x9 x10 f11 f12 f13 f14) 222 (0,0)):=heap_setCell_same ((((((((((w.setCell ⟨g,11,none⟩ x0).setCell ⟨g,12,none⟩ x1).setCell ⟨g,13,none⟩ x2).setCell ⟨g,14,none⟩ x3).setCell ⟨g,15,none⟩ x4).setCell ⟨g,16,none⟩ x5).setCell ⟨g,17,none⟩ x6).setCell ⟨g,18,none⟩ x7).setCell ⟨g,19,none⟩ x8).setCell ⟨g,20,none⟩ x9) g 21 _ _ _ e9
 have e11:((((((((((((w.setCell ⟨g,11,none⟩ x0).setCell ⟨g,12,none⟩ x1).setCell ⟨g,13,none⟩ x2).setCell ⟨g,14,none⟩ x3).setCell ⟨g,15,none⟩ x4).setCell ⟨g,16,none⟩ x5).setCell ⟨g,17,none⟩ x6).setCell ⟨g,18,none⟩ x7).setCell ⟨g,19,none⟩ x8).setCell ⟨g,20,none⟩ x9).setCell ⟨g,21,none⟩ x10).setCell ⟨g,22,none⟩ x11).heap[g]? =some (.cells (lineRow pub vl vs sd h fk x0 x1 x2 x3 x4 x5 x6 x7 x8 x9 x10 x11 f12 f13 f14) 222 (0,0)):=heap_setCell_same (((((((((((w.setCell ⟨g,11,none⟩ x0).setCell ⟨g,12,none⟩ x1).setCell ⟨g,13,none⟩ x2).setCell ⟨g,14,none⟩ x3).setCell ⟨g,15,none⟩ x4).setCell ⟨g,16,none⟩ x5).setCell ⟨g,17,none⟩ x6).setCell ⟨g,18,none⟩ x7).setCell ⟨g,19,none⟩ x8).setCell ⟨g,20,none⟩ x9).setCell ⟨g,21,none⟩ x10) g 22 _ _ _ e10
 have e12:(((((((((((((w.setCell ⟨g,11,none⟩ x0).setCell ⟨g,12,none⟩ x1).setCell ⟨g,13,none⟩ x2).setCell ⟨g,14,none⟩ x3).setCell ⟨g,15,none⟩ x4).setCell ⟨g,16,none⟩ x5).setCell ⟨g,17,none⟩ x6).setCell ⟨g,18,none⟩ x7).setCell ⟨g,19,none⟩ x8).setCell ⟨g,20,none⟩ x9).setCell ⟨g,21,none⟩ x10).setCell ⟨g,22,none⟩ x11).setCell ⟨g,23,none⟩ x12).heap[g]? =some (.cells (lineRow pub vl vs sd h fk x0 x1 x2 x3 x4 x5 x6 x7 x8 x9 x10 x11 x12 f13 f14) 222 (0,0)):=heap_setCell_same ((((((((((((w.setCell ⟨g,11,none⟩ x0).setCell ⟨g,12,none⟩ x1).setCell ⟨g,13,none⟩ x2).setCell ⟨g,14,none⟩ x3).setCell ⟨g,15,none⟩ x4).setCell ⟨g,16,none⟩ x5).setCell ⟨g,17,none⟩ x6).setCell ⟨g,18,none⟩ x7).setCell ⟨g,19,none⟩ x8).setCell ⟨g,20,none⟩ x9).setCell ⟨g,21,none⟩ x10).setCell ⟨g,22,none⟩ x11) g 23 _ _ _ e11
 have e13:((((((((((((((w.setCell ⟨g,11,none⟩ x0).setCell ⟨g,12,none⟩ x1).setCell ⟨g,13,none⟩ x2).setCell ⟨g,14,none⟩ x3).setCell ⟨g,15,none⟩ x4).setCell ⟨g,16,none⟩ x5).setCell ⟨g,17,none⟩ x6).setCell ⟨g,18,none⟩ x7).setCell ⟨g,19,none⟩ x8).setCell ⟨g,20,none⟩ x9).setCell ⟨g,21,none⟩ x10).setCell ⟨g,22,none⟩ x11).setCell ⟨g,23,none⟩ x12).setCell ⟨g,24,none⟩ x13).heap[g]? =some (.cells (lineRow pub vl vs sd h fk x0 x1 x2 x3 x4 x5 x6 x7 x8 x9 x10 x11 x12 x13 f14) 222 (0,0)):=heap_setCell_same (((((((((((((w.setCell ⟨g,11,none⟩ x0).setCell ⟨g,12,none⟩ x1).setCell ⟨g,13,none⟩ x2).setCell ⟨g,14,none⟩ x3).setCell ⟨g,15,none⟩ x4).setCell ⟨g,16,none⟩ x5).setCell ⟨g,17,none⟩ x6).setCell ⟨g,18,none⟩ x7).setCell ⟨g,19,none⟩ x8).setCell ⟨g,20,none⟩ x9).setCell ⟨g,21,none⟩ x10).setCell ⟨g,22,none⟩ x11).setCell ⟨g,23,none⟩ x12) g 24 _ _ _ e12
 have e14:(((((((((((((((w.setCell ⟨g,11,none⟩ x0).setCell ⟨g,12,none⟩ x1).setCell ⟨g,13,none⟩ x2).setCell ⟨g,14,none⟩ x3).setCell ⟨g,15,none⟩ x4).setCell ⟨g,16,none⟩ x5).setCell ⟨g,17,none⟩ x6).setCell ⟨g,18,none⟩ x7).setCell ⟨g,19,none⟩ x8).setCell ⟨g,20,none⟩ x9).setCell ⟨g,21,none⟩ x10).setCell ⟨g,22,none⟩ x11).setCell ⟨g,23,none⟩ x12).setCell ⟨g,24,none⟩ x13).setCell ⟨g,25,none⟩ x14).heap[g]? =some (.cells (lineRow pub vl vs sd h fk x0 x1 x2 x3 x4 x5 x6 x7 x8 x9 x10 x11 x12 x13 x14) 222 (0,0)):=heap_setCell_same ((((((((((((((w.setCell ⟨g,11,none⟩ x0).setCell ⟨g,12,none⟩ x1).setCell ⟨g,13,none⟩ x2).setCell ⟨g,14,none⟩ x3).setCell ⟨g,15,none⟩ x4).setCell ⟨g,16,none⟩ x5).setCell ⟨g,17,none⟩ x6).setCell ⟨g,18,none⟩ x7).setCell ⟨g,19,none⟩ x8).setCell ⟨g,20,none⟩ x9).setCell ⟨g,21,none⟩ x10).setCell ⟨g,22,none⟩ x11).setCell ⟨g,23,none⟩ x12).setCell ⟨g,24,none⟩ x13) g 25 _ _ _ e13
 exact e14
theorem line_put7 {w:World} {g:Nat} {pub:ByteArray} {vl vs:Value} {sd:Int} {h:HV} {fk:Bool} {f0 f1 f2 f3 f4 f5 f6 f7 f8 f9 f10 f11 f12 f13 f14:Value} (q:Int) (x:HV) (hg:w.heap[g]? =some (.cells (lineRow pub vl vs sd h fk f0 f1 f2 f3 f4 f5 f6 f7 f8 f9 f10 f11 f12 f13 f14) 222 (0,0))):
    ((((((((w.setCell ⟨g,3,none⟩ (.int .i64 q)).setCell ⟨g,4,none⟩ (.int .i64 x.h.dev)).setCell ⟨g,5,none⟩ (.int .i64 x.h.seq)).setCell ⟨g,6,none⟩ (.string x.h.sum)).setCell ⟨g,7,none⟩ (.int .i64 x.h.idx)).setCell ⟨g,8,none⟩ (.slice x.a1 x.h.ps.length x.c1)).setCell ⟨g,9,none⟩ (.slice x.a2 x.h.qs.length x.c2))).heap[g]? =some (.cells (lineRow pub vl vs q x fk f0 f1 f2 f3 f4 f5 f6 f7 f8 f9 f10 f11 f12 f13 f14) 222 (0,0)):=by
 have e0:(w.setCell ⟨g,3,none⟩ (.int .i64 q)).heap[g]? =some (.cells (lineRow pub vl vs q h fk f0 f1 f2 f3 f4 f5 f6 f7 f8 f9 f10 f11 f12 f13 f14) 222 (0,0)):=heap_setCell_same w g 3 _ _ _ hg
 have e1:((w.setCell ⟨g,3,none⟩ (.int .i64 q)).setCell ⟨g,4,none⟩ (.int .i64 x.h.dev)).heap[g]? =some (.cells (lineRow pub vl vs q (HV.mk (Hd.mk x.h.dev h.h.seq h.h.sum h.h.idx h.h.ps h.h.qs) h.a1 h.c1 h.a2 h.c2) fk f0 f1 f2 f3 f4 f5 f6 f7 f8 f9 f10 f11 f12 f13 f14) 222 (0,0)):=heap_setCell_same (w.setCell ⟨g,3,none⟩ (.int .i64 q)) g 4 _ _ _ e0
 have e2:(((w.setCell ⟨g,3,none⟩ (.int .i64 q)).setCell ⟨g,4,none⟩ (.int .i64 x.h.dev)).setCell ⟨g,5,none⟩ (.int .i64 x.h.seq)).heap[g]? =some (.cells (lineRow pub vl vs q (HV.mk (Hd.mk x.h.dev x.h.seq h.h.sum h.h.idx h.h.ps h.h.qs) h.a1 h.c1 h.a2 h.c2) fk f0 f1 f2 f3 f4 f5 f6 f7 f8 f9 f10 f11 f12 f13 f14) 222 (0,0)):=heap_setCell_same ((w.setCell ⟨g,3,none⟩ (.int .i64 q)).setCell ⟨g,4,none⟩ (.int .i64 x.h.dev)) g 5 _ _ _ e1
 have e3:((((w.setCell ⟨g,3,none⟩ (.int .i64 q)).setCell ⟨g,4,none⟩ (.int .i64 x.h.dev)).setCell ⟨g,5,none⟩ (.int .i64 x.h.seq)).setCell ⟨g,6,none⟩ (.string x.h.sum)).heap[g]? =some (.cells (lineRow pub vl vs q (HV.mk (Hd.mk x.h.dev x.h.seq x.h.sum h.h.idx h.h.ps h.h.qs) h.a1 h.c1 h.a2 h.c2) fk f0 f1 f2 f3 f4 f5 f6 f7 f8 f9 f10 f11 f12 f13 f14) 222 (0,0)):=heap_setCell_same (((w.setCell ⟨g,3,none⟩ (.int .i64 q)).setCell ⟨g,4,none⟩ (.int .i64 x.h.dev)).setCell ⟨g,5,none⟩ (.int .i64 x.h.seq)) g 6 _ _ _ e2
 have e4:(((((w.setCell ⟨g,3,none⟩ (.int .i64 q)).setCell ⟨g,4,none⟩ (.int .i64 x.h.dev)).setCell ⟨g,5,none⟩ (.int .i64 x.h.seq)).setCell ⟨g,6,none⟩ (.string x.h.sum)).setCell ⟨g,7,none⟩ (.int .i64 x.h.idx)).heap[g]? =some (.cells (lineRow pub vl vs q (HV.mk (Hd.mk x.h.dev x.h.seq x.h.sum x.h.idx h.h.ps h.h.qs) h.a1 h.c1 h.a2 h.c2) fk f0 f1 f2 f3 f4 f5 f6 f7 f8 f9 f10 f11 f12 f13 f14) 222 (0,0)):=heap_setCell_same ((((w.setCell ⟨g,3,none⟩ (.int .i64 q)).setCell ⟨g,4,none⟩ (.int .i64 x.h.dev)).setCell ⟨g,5,none⟩ (.int .i64 x.h.seq)).setCell ⟨g,6,none⟩ (.string x.h.sum)) g 7 _ _ _ e3
 have e5:((((((w.setCell ⟨g,3,none⟩ (.int .i64 q)).setCell ⟨g,4,none⟩ (.int .i64 x.h.dev)).setCell ⟨g,5,none⟩ (.int .i64 x.h.seq)).setCell ⟨g,6,none⟩ (.string x.h.sum)).setCell ⟨g,7,none⟩ (.int .i64 x.h.idx)).setCell ⟨g,8,none⟩ (.slice x.a1 x.h.ps.length x.c1)).heap[g]? =some (.cells (lineRow pub vl vs q (HV.mk (Hd.mk x.h.dev x.h.seq x.h.sum x.h.idx x.h.ps h.h.qs) x.a1 x.c1 h.a2 h.c2) fk f0 f1 f2 f3 f4 f5 f6 f7 f8 f9 f10 f11 f12 f13 f14) 222 (0,0)):=heap_setCell_same (((((w.setCell ⟨g,3,none⟩ (.int .i64 q)).setCell ⟨g,4,none⟩ (.int .i64 x.h.dev)).setCell ⟨g,5,none⟩ (.int .i64 x.h.seq)).setCell ⟨g,6,none⟩ (.string x.h.sum)).setCell ⟨g,7,none⟩ (.int .i64 x.h.idx)) g 8 _ _ _ e4
 have e6:(((((((w.setCell ⟨g,3,none⟩ (.int .i64 q)).setCell ⟨g,4,none⟩ (.int .i64 x.h.dev)).setCell ⟨g,5,none⟩ (.int .i64 x.h.seq)).setCell ⟨g,6,none⟩ (.string x.h.sum)).setCell ⟨g,7,none⟩ (.int .i64 x.h.idx)).setCell ⟨g,8,none⟩ (.slice x.a1 x.h.ps.length x.c1)).setCell ⟨g,9,none⟩ (.slice x.a2 x.h.qs.length x.c2)).heap[g]? =some (.cells (lineRow pub vl vs q (HV.mk (Hd.mk x.h.dev x.h.seq x.h.sum x.h.idx x.h.ps x.h.qs) x.a1 x.c1 x.a2 x.c2) fk f0 f1 f2 f3 f4 f5 f6 f7 f8 f9 f10 f11 f12 f13 f14) 222 (0,0)):=heap_setCell_same ((((((w.setCell ⟨g,3,none⟩ (.int .i64 q)).setCell ⟨g,4,none⟩ (.int .i64 x.h.dev)).setCell ⟨g,5,none⟩ (.int .i64 x.h.seq)).setCell ⟨g,6,none⟩ (.string x.h.sum)).setCell ⟨g,7,none⟩ (.int .i64 x.h.idx)).setCell ⟨g,8,none⟩ (.slice x.a1 x.h.ps.length x.c1)) g 9 _ _ _ e5
 exact e6
def MergeOut (w w':World) (G:Nat→Nat) (s d g N0:Nat) (r:Lin × Nat) (v:Value):Prop:= ∃G',v= .int .i64 ((r.2:Nat):Int)∧LineAt w' G' (s+1+d) g r.1∧Own w' G' N0∧Step G G' (fun t=>t=s+1+d) w w'∧(∀k,G' k=G k∨(s≤G' k∧G' k≤s+50))
theorem MergeOut.same {w w':World} {G:Nat→Nat} {s d g N0:Nat} {l:Lin} (h:LineAt w G (s+1+d) g l) (hO:Own w G N0) (hb:Below w.heap.size w w'):MergeOut w w' G s d g N0 (l,0) (.int .i64 0):=
 ⟨G,rfl,h.later hb,hO.later hb.size,Step.of_below hb _ _,fun _=> .inl rfl⟩

theorem merge_any {G:Nat→Nat} {s d g mb mn N0:Nat} {l:Lin} (xs0:List EV) (x:HV) (q:Nat) (hq:x.h.seq=(q:Int)) (hs32:x.h.sum.size=32) (hmx:l.log.length≤4096) (hsl:l.sealed'≤l.log.length) (hlb: ∀e ∈ l.log,e.body.length≤1000000000) (hsm:SmallL l) (hsx:SmallH x.h) (h0:0<s) (hd:d≤40) (w:World) (h:LineAt w G (s+1+d) g l) (hM0:MapE w mb mn xs0) (hxb: ∀y ∈ xs0,y.ok w G∧y.e.body.length≤1000000000) (hxo:x.ok w G) (hO:Own w G N0):
    Calls Tryz.prog 155 #[.pointer (some ⟨g,0,none⟩),.map (some mb),.agg #[.int .i64 x.h.dev,.int .i64 (q:Int),.string x.h.sum,.int .i64 x.h.idx,.slice x.a1 x.h.ps.length x.c1,.slice x.a2 x.h.qs.length x.c2]] w fun e w'=> ∃r:Value,e= .returned r∧MergeOut w w' G s d g N0 (mergeL l (givenOf (xs0.map EV.e)) x.h) r:=by
 have HLA:=hid h
 obtain ⟨vl,vs,ss,hx,f0,f1,f2,f3,f4,f5,f6,f7,f8,f9,f10,f11,f12,f13,f14,hln⟩:=h
 have HLN:=hid hln
 obtain ⟨al,cl,rfl,hcl,hcm,hnl,hES,hoff⟩:=hln.log.ents
 obtain ⟨sl,cs,rfl,hsl2,hcs,hSS,hns,hnb⟩:=strs_of_own hln.sums
 obtain ⟨xsl,hxl1,hxl2,hxl3,hxl4⟩:=hln.log
 have HX1E:=hid hxl1
 have HX3T:=hid hxl3
 have HX4O:=hid hxl4
 have HALC:Hid ((al=none∧l.log.length=0)∨ ∃bA,al=some ⟨bA,0,none⟩):=hid (by
  rcases own_cases hxl2 with ⟨e,e0⟩ | ⟨bA,cA,e⟩
  ·injection e with e _ _;exact .inl ⟨e,e0⟩
  ·injection e with e _ _;exact .inr ⟨bA,e⟩)
 have HSLC:Hid ((sl=none∧l.log.length=0)∨ ∃bA,sl=some ⟨bA,0,none⟩):=hid (by
  rcases own_cases hln.sums with ⟨e,e0⟩ | ⟨bA,cA,e⟩
  ·injection e with e _ _;exact .inl ⟨e,e0⟩
  ·injection e with e _ _;exact .inr ⟨bA,e⟩)
 have hs0:=hln.sums
 have HSTG:=hid hln.stag
 have HSUE:=hid hln.sumE
 have HFIN:=hid (fun V hL hM=>find_lit (G:=G) (t:=s+1+d) (g:=g) (mb:=mb) (mn:=mn) (l:=l) xs0 x q hq hs32 hmx V hL hM)
 obtain ⟨L,hLe⟩:=ex_eq l.log.length
 rw [hLe] at hcl hsl2 hmx hsl hxl2 hs0 HALC HSLC HX3T HSTG
 have HXLO:=hid hxl2
 have HSLO:=hid hs0
 have HLE:=hid hLe
 obtain ⟨bf,hbf⟩:=ex_eq l.fork.isSome
 have HBF:=hid hbf
 obtain ⟨sd,hsd⟩:=ex_eq l.sealed'
 have HSD:=hid hsd
 rw [hsd] at hsl
 have HRW:Hid (w.heap[g]? =some (.cells (lineRow l.pub (.slice al L cl) (.slice sl L cs) (sd:Int) hx bf f0 f1 f2 f3 f4 f5 f6 f7 f8 f9 f10 f11 f12 f13 f14) 222 (0,0))):=hid (by rw [← hLe,← hbf,← hsd];exact hln.row)
 have HES:=hid hES
 have HSS:=hid hSS
 have HSL:=hid hsl2
 have HCL:=hid hcl
 have HCS:Hid (L≤cs):=hid (by rw [← hsl2];exact hcs)
 have HMP:=hid hM0
 have HLB:=hid hlb
 have HSM:Hid (l.head.ps.length≤100000000∧l.head.qs.length≤100000000):=hid hsm
 have HSX:Hid (x.h.ps.length≤100000000∧x.h.qs.length≤100000000):=hid hsx
 have HXB:=hid hxb
 have HXO:=hid hxo
 have HO:=hid hO
 have HSB:Hid (sd≤L∧L≤4096):=hid ⟨hsl,hmx⟩
 have HQ:=hid hq
 have HD:Hid (0<s∧d≤40):=hid ⟨h0,hd⟩
 obtain ⟨gv,hgv⟩:=ex_eq (givenOf (xs0.map EV.e))
 have HGV:=hid hgv
 have HGO:Hid (∀s e,gv s=some e→ValidE e∧sumE e=s):=hid (by rw [← hgv];exact givenOf_ok _)
 rw [hgv] at HFIN ⊢
 clear hxl1 hxl2 hxl3 hxl4 hs0
 clear hln hcl hcm hnl hES hoff hsl hsl2 hcs hSS hns hnb hLe hbf hsd hM0 hs32 hmx hgv hq hlb hsm hsx hxb hxo hO h0 hd
 go_enter Tryz.func155,Tryz.ntmps155
 go_upto_region 1 with fail
 refine wp_over (fun W=>Hid (W.heap[w.heap.size]? =some (.cells #[.int .i64 x.h.dev,.int .i64 (q:Int),.string x.h.sum,.int .i64 x.h.idx,.slice x.a1 x.h.ps.length x.c1,.slice x.a2 x.h.qs.length x.c2] 94 (0,0)))∧Hid (Below w.heap.size w W)∧Hid (W.heap.size=w.heap.size+1)) ⟨heap_alloc_new _ _,(Below.refl _ _).alloc (Nat.le_refl _) _,by show _=_;simp⟩ ?_
 rintro W ⟨HHB,HB1,HW1⟩
 obtain ⟨M,hM⟩:=ex_eq w.heap.size
 have HM:=hid hM
 rw [hM] at HHB HB1 HW1 ⊢
 clear hM
 have HF0:=hid (HFIN.o W (HLA.o.later (by rw [HM.o];exact HB1.o)) (HMP.o.later (by rw [HM.o];exact HB1.o)))
 obtain ⟨h0,h1,h2,h3,h4,h5⟩:=row6 HHB.o
 go_upto_region 2 with (first
  | (go_at_call 223
     (with_reducible refine HF0.o.mono ?_)
     rintro e w2 ⟨z,a7,n7,c7,a8,n8,c8,ok,rfl,hb2,hf2⟩
     have HB2:=hid hb2
     have HF2:=hid hf2
     clear hb2 hf2 h0 h1 h2 h3 h4 h5))
 have HX1:Hid (M+1≤w2.heap.size):=hid (by have:=HB2.o.size;have:=HW1.o;omega)
 have HBW:Hid (Below M w w2):=hid (HB1.o.trans (HB2.o.mono (by have:=HW1.o;omega)))
 refine wp_over (fun V=>Hid (V.heap[M]? =some (.cells #[.int .i64 x.h.dev,.int .i64 (q:Int),.string x.h.sum,.int .i64 x.h.idx,.slice x.a1 x.h.ps.length x.c1,.slice x.a2 x.h.qs.length x.c2] 94 (0,0)))∧Hid (V.heap[w2.heap.size]? =some (.cells #[.int .i64 z,.slice a7 n7 c7,.slice a8 n8 c8] 286 (0,0)))∧Hid (Below M w V)∧Hid (Below w2.heap.size w2 V)∧Hid (w2.heap.size+1=V.heap.size)) ⟨(Below.heap_alloc _ _ _ (by have:=HX1.o;omega)).trans ((HB2.o.block M (by have:=HW1.o;omega)).trans HHB.o),heap_alloc_new w2 _,HBW.o.alloc (by have:=HX1.o;omega) _,(Below.refl _ w2).alloc (Nat.le_refl _) _,by show _=_;simp⟩ ?_
 rintro V ⟨HHV,HTV,HBV,HB3,HV1⟩
 obtain ⟨X,hX⟩:=ex_eq w2.heap.size
 have HXE:=hid hX
 rw [hX] at HX1 HTV HV1 ⊢
 clear hX HHB HBW
 have HLV:Hid (V.heap[g]? =some (.cells (lineRow l.pub (.slice al L cl) (.slice sl L cs) (sd:Int) hx bf f0 f1 f2 f3 f4 f5 f6 f7 f8 f9 f10 f11 f12 f13 f14) 222 (0,0))):=hid ((HBV.o.block g (by rw [← HM.o];exact (gS HRW.o).1)).trans HRW.o)
 cases ok with
 | false=>
   have HFN:Hid (findL l.log gv x.h=none):=hid (by
    have hf:=HF2.o
    unfold FindOut at hf
    rcases hf with ⟨_,h,_⟩ | ⟨h,_⟩
    ·exact h
    ·cases h)
   go_wp2_with fail
   go_ret
   refine ⟨_,rfl,?_⟩
   rw [show mergeL l gv x.h=(l,0) by unfold mergeL;rw [HFN.o]]
   exact MergeOut.same HLA.o HO.o (by rw [HM.o];exact HBV.o)
 | true=>
   obtain ⟨b,ys,us,hz,hfs,ho7,ho8,hsu,hyx,hyl⟩: ∃(b:Nat) (ys:List EV) (us:List ByteArray),z=(b:Int)∧findL l.log gv x.h=some (b,ys.map EV.e)∧w2.ownsRow W.heap.size 92 6 (.slice a7 n7 c7) ys.length (evs ys)∧w2.ownsRow W.heap.size 9 1 (.slice a8 n8 c8) ys.length (strV us)∧us.map nb=ys.map (fun y=>sumE y.e)∧(∀y ∈ ys,y ∈ xs0)∧ys.length≤4096:=by
    have hf:=HF2.o
    unfold FindOut at hf
    rcases hf with ⟨h,_⟩ | ⟨_,b,ys,us,h1,h2⟩
    ·cases h
    ·injection h1 with _ h1
     exact ⟨b,ys,us,h1,h2⟩
   subst hz
   obtain ⟨K,hK⟩:=ex_eq ys.length
   have HKE:=hid hK
   rw [hK] at ho7 ho8 hyl
   have e7:K=n7:=by
    rcases ho7.2 with ⟨e,e0⟩ | ⟨g',cap,cur,e,_⟩
    ·injection e with _ e _;omega
    ·injection e with _ e _;exact e.symm
   subst e7
   have e8:K=n8:=by
    rcases ho8.2 with ⟨e,e0⟩ | ⟨g',cap,cur,e,_⟩
    ·injection e with _ e _;omega
    ·injection e with _ e _;exact e.symm
   subst e8
   obtain ⟨hbk,hbl,hq4⟩:=findL_len HGO.o hfs
   rw [List.length_map,hK,show x.h.seq.toNat=q by rw [HQ.o];rfl] at hbk
   rw [HLE.o] at hbl
   have HBK:Hid (b+K=q∧b≤L∧q≤4096∧K≤4096):=hid ⟨hbk,hbl,by have:=HQ.o;omega,hyl⟩
   have HFS:=hid hfs
   have HE7:Hid (V.ownsRow (M+1) 92 6 (.slice a7 K c7) K (evs ys)):=hid (by rw [HW1.o] at ho7;exact own_later ho7 HB3.o)
   have HE8:Hid (V.ownsRow (M+1) 9 1 (.slice a8 K c8) K (strV us)):=hid (by rw [HW1.o] at ho8;exact own_later ho8 HB3.o)
   have HSU:=hid hsu
   have HYX:=hid hyx
   clear hfs ho7 ho8 hsu hyx hK hbk hbl hq4 hyl
   obtain ⟨h0,h1,h2,h3,h4,h5⟩:=row6 HHV.o
   obtain ⟨t0,t1,t2⟩:=row3T HTV.o
   obtain ⟨k0,l1,l2,l3,k4,k5,kf⟩:=line_cells HLV.o
   by_cases hA:b<min q sd
   ·have HA:Hid (b<min q sd):=hid hA
    have hmi:(b:Int)<min (q:Int) (sd:Int):=by omega
    have hq4:q≤4096:=HBK.o.2.2.1
    go_upto_region 4 with fail
    go_quiet (fail)
    go_upto_region 5 with fail
    refine wp_over (fun U=>Hid (U.heap[M]? =some (.cells #[.int .i64 x.h.dev,.int .i64 (q:Int),.string x.h.sum,.int .i64 x.h.idx,.slice x.a1 x.h.ps.length x.c1,.slice x.a2 x.h.qs.length x.c2] 94 (0,0)))∧Hid (U.heap[X]? =some (.cells #[.int .i64 (b:Int),.slice a7 K c7,.slice a8 K c8] 286 (0,0)))∧Hid (U.heap[g]? =some (.cells (lineRow l.pub (.slice al L cl) (.slice sl L cs) (sd:Int) hx bf f0 f1 f2 f3 f4 f5 f6 f7 f8 f9 f10 f11 f12 f13 f14) 222 (0,0)))∧Hid (Below M w U)∧Hid (Below V.heap.size V U)) ⟨HHV,HTV,HLV,hid (HBV.o.trans (below_drewN.mono (by have:=HX1.o;have:=HV1.o;omega))),hid below_drewN⟩ ?_
    rintro U ⟨HHU,HTU,HLU,HBU,HVU⟩
    clear h0 h1 h2 h3 h4 h5 t0 t1 t2 k0 l1 l2 l3 k4 k5 kf hmi hq4
    obtain ⟨h0,h1,h2,h3,h4,h5⟩:=row6 HHU.o
    obtain ⟨t0,t1,t2⟩:=row3T HTU.o
    obtain ⟨k0,l1,l2,l3,k4,k5,kf⟩:=line_cells HLU.o
    cases bf with
    | true=>
      go_wp2_with fail
      go_ret
      refine ⟨_,rfl,?_⟩
      rw [show mergeL l gv x.h=(l,0) by 
       unfold mergeL
       rw [HFS.o];simp only;rw [show x.h.seq.toNat=q by rw [HQ.o];rfl,HSD.o]
       rw [if_pos HA.o]
       have hb:=HBF.o
       cases hf:l.fork with
       | none=>rw [hf] at hb;cases hb
       | some f=>rfl]
      exact MergeOut.same HLA.o HO.o (by rw [HM.o];exact HBU.o)
    | false=>
      clear hA
      go_upto_region 6 with fail
      have hK0:0<K:=by have:=HBK.o;have:=HA.o;omega
      obtain ⟨b7,e7⟩: ∃b,a7=some ⟨b,0,none⟩:=by
       obtain ⟨b,c,e⟩:=own_some HE7.o hK0
       injection e with e _ _
       exact ⟨b,e⟩
      subst e7
      obtain ⟨b8,e8⟩: ∃b,a8=some ⟨b,0,none⟩:=by
       obtain ⟨b,c,e⟩:=own_some HE8.o hK0
       injection e with e _ _
       exact ⟨b,e⟩
      subst e8
      have HK0:Hid (0<K):=hid hK0
      clear hK0
      have hslE: ∀(k:Nat),k≤cl→ ∀W,(Instr.slice 111 (.slice al L cl) none (some (.int .i64 (k:Int))) none).run Tryz.prog W= .ok (.slice al k cl) W:=fun k hk W=>by
       have h1:=sliceE_h al L cl k hk W
       rw [sub6_id HALC.o] at h1
       exact h1
      have HLBE:Hid (∀W k,Below M w W→k≤L→EntsAt W al (l.log.take k)):=hid (fun W k hW hk=>by
       have h1:=ents_sub (cap:=cl) (HES.o.later (by rw [HM.o];exact hW)) (by rw [HLE.o];exact HCL.o) 0 k
       rw [sub6_id HALC.o,List.drop_zero] at h1
       exact h1)
      have HYE:Hid (∀W,Below V.heap.size V W→EntsAt W (some ⟨b7,0,none⟩) (ys.map EV.e)):=hid (fun W hW=>ents_of_own (own_later HE7.o hW) (fun y hy=>⟨(HXB.o y (HYX.o y hy)).1.1,((HXB.o y (HYX.o y hy)).1.2.1.later (by rw [HM.o];exact HBV.o)).later hW⟩))
      have HYB:Hid (∀e ∈ ys.map EV.e,e.body.length≤1000000000):=hid (fun e he=>by
       obtain ⟨y,hy,rfl⟩:=List.mem_map.1 he
       exact (HXB.o y (HYX.o y hy)).2)
      have HKM:Hid ((ys.map EV.e).length=K):=hid (by rw [List.length_map];exact HKE.o)
      have HTK:Hid (∀k,k≤L→(l.log.take k).length=k):=hid (fun k hk=>by rw [List.length_take,HLE.o];omega)
      have HLTK:Hid (∀k,∀e ∈ l.log.take k,e.body.length≤1000000000):=hid (fun k e he=>HLB.o e (List.mem_of_mem_take he))
      have HSU6:Hid (∀W,Below U.heap.size U W→W.cell? ⟨g,1,none⟩=some (.slice al L cl)∧W.cell? ⟨X,0,none⟩=some (.int .i64 (b:Int))∧W.cell? ⟨X,1,none⟩=some (.slice (some ⟨b7,0,none⟩) K c7)):=hid (fun W hW=>by
       obtain ⟨_,m1,_⟩:=line_cells ((hW.block g (gS HLU.o).1).trans HLU.o)
       obtain ⟨s0,s1,_⟩:=row3T ((hW.block X (gS HTU.o).1).trans HTU.o)
       exact ⟨m1,s0,s1⟩)
      have HMU:Hid (M≤U.heap.size):=hid (by rw [← HM.o];exact HBU.o.size)
      have HVS:Hid (V.heap.size≤U.heap.size):=hid HVU.o.size
      have hbc:b≤cl:=by have:=HBK.o;have:=HCL.o;omega
      have hsl0:=hslE b hbc
      refine Kit.wp_region_gplan (fun W=>W.cell? ⟨g,1,none⟩=some (.slice al L cl)∧W.cell? ⟨X,0,none⟩=some (.int .i64 (b:Int))∧W.cell? ⟨X,1,none⟩=some (.slice (some ⟨b7,0,none⟩) K c7)) [(true,0),(true,1),(true,2),(true,3),(true,4),(true,5),(true,6),(true,8),(true,9),(false,7),(false,10),(false,11),(true,12)] (by kernel_rfl) (by kernel_rfl) (by kernel_rfl) (by kernel_rfl) ⟨l1,t0,t1⟩ ?_
      iterate 9 (refine Kit.ghd (h:= ?_))
      refine Kit.gplan_op (by rfl) (by rfl) fun K' hK=> ?_
      go_simp
      clear hsl0
      have HD0:Hid (Below U.heap.size U U.drew):=hid (Below.refl _ U).drew
      go_at_call 146
      with_reducible refine (cloneLog_any al cl b (l.log.take b) (HTK.o b HBK.o.2.1) (by have:=HBK.o;omega) (HLTK.o b) U.drew (HLBE.o _ b (HBU.o.trans (HD0.o.mono HMU.o)) HBK.o.2.1)).mono ?_
      rintro e w3 ⟨bl1,xs1,rfl,hx1,hr1,hb1,hn1,hbl1⟩
      have HX1':=hid hx1
      have HR1:=hid hr1
      have HN1:=hid hn1
      have HBL1:Hid (U.heap.size≤bl1):=hid hb1
      have HW3:Hid (Below U.heap.size U w3):=hid (HD0.o.trans hbl1)
      clear hx1 hr1 hb1 hn1 hbl1
      refine hK _ _ (HSU6.o _ HW3.o) ?_
      clear hK K'
      refine Kit.gplan_op (by rfl) (by rfl) fun K' hK=> ?_
      go_simp
      go_at_call 146
      with_reducible refine (cloneLog_any (some ⟨b7,0,none⟩) c7 K (ys.map EV.e) HKM.o (by have:=HBK.o;omega) HYB.o w3 (HYE.o _ (HVU.o.trans (HW3.o.mono HVS.o)))).mono ?_
      rintro e w4 ⟨bl2,xs2,rfl,hx2,hr2,hb2,hn2,hbl2⟩
      have HX2':=hid hx2
      have HR2:=hid hr2
      have HN2:=hid hn2
      have HBL2:Hid (w3.heap.size≤bl2):=hid hb2
      have HW4:Hid (Below U.heap.size U w4):=hid (HW3.o.trans (hbl2.mono HW3.o.size))
      have H34:Hid (Below w3.heap.size w3 w4):=hid hbl2
      clear hx2 hr2 hb2 hn2 hbl2
      refine hK _ _ (HSU6.o _ HW4.o) ?_
      clear hK K'
      refine Kit.gplan_op (by rfl) (by rfl) fun K' hK=> ?_
      have HR14:Hid (RowS EV.cells 92 w4 bl1 b xs1):=hid (HR1.o.later H34.o)
      have HXL1:Hid (xs1.length=b):=hid (by have:=congrArg List.length HX1'.o;rw [List.length_map,HTK.o b HBK.o.2.1] at this;exact this)
      have HXL2:Hid (xs2.length=K):=hid (by have:=congrArg List.length HX2'.o;rw [List.length_map,HKM.o] at this;exact this)
      refine wp_clip_ents (w0:=w4) (.tmp 42) (.tmp 45) (by rfl) (some ⟨bl1,0,none⟩) b xs1 (by rfl) HXL1.o (.inr ⟨_,rfl,RowS.src HR14.o⟩) (by have:=HBK.o;omega) ⟨bl2,0,none⟩ K K xs2 (by rfl) HXL2.o (by have:=HBK.o;omega) HK0.o (RowS.src HR2.o) ?_
      intro cp5 w5 ho5 hb5
      have HO5:=hid ho5
      have HW5:Hid (Below U.heap.size U w5):=hid (HW4.o.trans (hb5.mono HW4.o.size))
      have H45:Hid (Below w4.heap.size w4 w5):=hid hb5
      clear ho5 hb5
      refine hK _ _ (HSU6.o _ HW5.o) ?_
      clear hK K'
      iterate 1 (refine Kit.ghd (h:= ?_))
      refine Kit.gdn (h:=?_)
      obtain ⟨B5,hB5⟩:=ex_eq w4.heap.size
      have HB5:=hid hB5
      rw [hB5] at HO5 ⊢
      clear hB5 h0 h1 h2 h3 h4 h5 t0 t1 t2 k0 l1 l2 l3 k4 k5 kf
      have HL5:Hid (w5.heap[g]? =some (.cells (lineRow l.pub (.slice al L cl) (.slice sl L cs) (sd:Int) hx false f0 f1 f2 f3 f4 f5 f6 f7 f8 f9 f10 f11 f12 f13 f14) 222 (0,0))):=hid ((HW5.o.block g (gS HLU.o).1).trans HLU.o)
      have HH5:Hid (w5.heap[M]? =some (.cells #[.int .i64 x.h.dev,.int .i64 (q:Int),.string x.h.sum,.int .i64 x.h.idx,.slice x.a1 x.h.ps.length x.c1,.slice x.a2 x.h.qs.length x.c2] 94 (0,0))):=hid ((HW5.o.block M (gS HHU.o).1).trans HHU.o)
      obtain ⟨k0,l1,l2,l3,_,k5,kf⟩:=line_cells HL5.o
      have k10:w5.cell? ⟨g,10,none⟩=some (.bool false):=k5
      go_upto_region 8 with fail
      have HG8:Hid ((w5.setCell ⟨g,10,none⟩ (.bool true)).heap[g]? =some (.cells (lineRow l.pub (.slice al L cl) (.slice sl L cs) (sd:Int) hx true f0 f1 f2 f3 f4 f5 f6 f7 f8 f9 f10 f11 f12 f13 f14) 222 (0,0))):=hid (heap_setCell_same w5 g 10 _ _ _ HL5.o)
      have HGN:Hid (g<M):=hid (by rw [← HM.o];exact (gS HRW.o).1)
      have HH8:Hid ((w5.setCell ⟨g,10,none⟩ (.bool true)).heap[M]? =some (.cells #[.int .i64 x.h.dev,.int .i64 (q:Int),.string x.h.sum,.int .i64 x.h.idx,.slice x.a1 x.h.ps.length x.c1,.slice x.a2 x.h.qs.length x.c2] 94 (0,0))):=hid ((Below.heap_setCell _ _ _ _ (by have:=HGN.o;show M≠g;omega)).trans HH5.o)
      have HC8:Hid (Chg (fun k _=>k=g) w5 (w5.setCell ⟨g,10,none⟩ (.bool true))):=hid (Chg.setCell1 _ _ _ _ rfl)
      obtain ⟨V8,hV8⟩:=ex_eq (w5.setCell ⟨g,10,none⟩ (.bool true))
      rw [hV8] at HG8 HH8 HC8 ⊢
      clear hV8 k0 l1 l2 l3 k5 k10 kf
      have HCW8:Hid (Chg (fun k _=>k=g) w V8):=hid (((Chg.of_below (by rw [HM.o];exact HBU.o):Chg (fun k _=>k=g) w U).trans (Chg.of_below HW5.o)).trans HC8.o)
      have HSTEP:Hid (∀W,Chg (fun k _=>k=g) w W→Step G G (fun t=>t=s+1+d) w W):=hid (fun W hW=>⟨hW.mono fun k i _ e=>by rw [e];exact HLN.o.tag,fun _ _=>rfl⟩)
      have HHX8:Hid ((StrsAt V8 hx.a1 hx.h.ps∧StrsAt V8 hx.a2 hx.h.qs)∧(StrsAt V8 x.a1 x.h.ps∧StrsAt V8 x.a2 x.h.qs)):=hid (by
       obtain ⟨u1,u2,_⟩:=HLN.o.hok.step (HSTEP.o _ HCW8.o) (by omega)
       obtain ⟨v1,v2,_⟩:=HXO.o.step (HSTEP.o _ HCW8.o) (by omega)
       exact ⟨⟨u1,u2⟩,v1,v2⟩)
      have HS8:Hid (∀W,Below V8.heap.size V8 W→(W.cell? ⟨M,0,none⟩=some (.int .i64 x.h.dev)∧W.cell? ⟨M,1,none⟩=some (.int .i64 (q:Int))∧W.cell? ⟨M,2,none⟩=some (.string x.h.sum)∧W.cell? ⟨M,3,none⟩=some (.int .i64 x.h.idx)∧W.cell? ⟨M,4,none⟩=some (.slice x.a1 x.h.ps.length x.c1)∧W.cell? ⟨M,5,none⟩=some (.slice x.a2 x.h.qs.length x.c2))∧W.cell? ⟨g,1,none⟩=some (.slice al L cl)∧W.cell? ⟨g,3,none⟩=some (.int .i64 (sd:Int))∧W.cell? ⟨g,4,none⟩=some (.int .i64 hx.h.dev)∧W.cell? ⟨g,5,none⟩=some (.int .i64 hx.h.seq)∧W.cell? ⟨g,6,none⟩=some (.string hx.h.sum)∧W.cell? ⟨g,7,none⟩=some (.int .i64 hx.h.idx)∧W.cell? ⟨g,8,none⟩=some (.slice hx.a1 hx.h.ps.length hx.c1)∧W.cell? ⟨g,9,none⟩=some (.slice hx.a2 hx.h.qs.length hx.c2)):=hid (fun W hW=>by
       obtain ⟨_,m1,_,m3,⟨m4,m5,m6,m7,m8,m9⟩,_,_⟩:=line_cells ((hW.block g (gS HG8.o).1).trans HG8.o)
       exact ⟨row6 ((hW.block M (gS HH8.o).1).trans HH8.o),m1,m3,m4,m5,m6,m7,m8,m9⟩)
      have hsl1:=hslE sd (by have:=HSB.o;have:=HCL.o;omega)
      refine Kit.wp_region_gplan (fun W=>(W.cell? ⟨M,0,none⟩=some (.int .i64 x.h.dev)∧W.cell? ⟨M,1,none⟩=some (.int .i64 (q:Int))∧W.cell? ⟨M,2,none⟩=some (.string x.h.sum)∧W.cell? ⟨M,3,none⟩=some (.int .i64 x.h.idx)∧W.cell? ⟨M,4,none⟩=some (.slice x.a1 x.h.ps.length x.c1)∧W.cell? ⟨M,5,none⟩=some (.slice x.a2 x.h.qs.length x.c2))∧W.cell? ⟨g,1,none⟩=some (.slice al L cl)∧W.cell? ⟨g,3,none⟩=some (.int .i64 (sd:Int))∧W.cell? ⟨g,4,none⟩=some (.int .i64 hx.h.dev)∧W.cell? ⟨g,5,none⟩=some (.int .i64 hx.h.seq)∧W.cell? ⟨g,6,none⟩=some (.string hx.h.sum)∧W.cell? ⟨g,7,none⟩=some (.int .i64 hx.h.idx)∧W.cell? ⟨g,8,none⟩=some (.slice hx.a1 hx.h.ps.length hx.c1)∧W.cell? ⟨g,9,none⟩=some (.slice hx.a2 hx.h.qs.length hx.c2)) [(true,0),(true,1),(true,2),(true,3),(true,4),(true,5),(true,6),(true,7),(true,8),(true,9),(true,10),(true,11),(true,13),(true,15),(true,16),(true,17),(true,18),(true,20),(false,12),(true,14),(false,19),(false,21),(true,22),(true,23),(true,24),(true,25),(false,26)] (by kernel_rfl) (by kernel_rfl) (by kernel_rfl) (by kernel_rfl) (HS8.o _ (Below.refl _ V8).drew) ?_
      obtain ⟨⟨h0,h1,h2,h3,h4,h5⟩,m1,m3,m4,m5,m6,m7,m8,m9⟩:=HS8.o _ (Below.refl _ V8).drew
      iterate 18 (refine Kit.ghd (h:= ?_))
      refine Kit.gplan_op (by rfl) (by rfl) fun K' hK=> ?_
      go_simp
      clear hsl1 hslE h0 h1 h2 h3 h4 h5 m1 m3 m4 m5 m6 m7 m8 m9
      have HD8:Hid (Below V8.heap.size V8 V8.drew):=hid (Below.refl _ V8).drew
      have HE8L:Hid (∀W k,Below V8.heap.size V8 W→k≤L→EntsAt W al (l.log.take k)):=hid (fun W k hW hk=>by
       have hlog:LogAt W G (s+1+d) (.slice al L cl) l.log:=by
        have hst:=HSTEP.o _ (HCW8.o.trans (Chg.of_below hW))
        refine ⟨xsl,HX1E.o,?_,HX3T.o,fun y hy=>(HX4O.o y hy).step hst (by omega)⟩
        rw [HLE.o]
        exact ownsRow_keepM HXLO.o (HCW8.o.trans (Chg.of_below hW)) (fun b hb i e=>not_row_of HXLO.o HRW.o (by decide) (by rw [← e];exact hb.symm))
       obtain ⟨al',cl',he,h1,_,_,h2,_⟩:=hlog.ents
       injection he with e1 e2 e3
       subst e1
       have h3:=ents_sub (cap:=cl) h2 (by rw [HLE.o];exact HCL.o) 0 k
       rw [sub6_id HALC.o,List.drop_zero] at h3
       exact h3)
      go_at_call 146
      with_reducible refine (cloneLog_any al cl sd (l.log.take sd) (HTK.o sd HSB.o.1) (by have:=HSB.o;omega) (HLTK.o sd) V8.drew (HE8L.o _ sd HD8.o HSB.o.1)).mono ?_
      rintro e w9 ⟨bl3,xs3,rfl,hx3,hr3,hb3,hn3,hbl3⟩
      have HX3':=hid hx3
      have HR3:=hid hr3
      have HN3:=hid hn3
      have HBL3:Hid (V8.heap.size≤bl3):=hid hb3
      have HW9:Hid (Below V8.heap.size V8 w9):=hid (HD8.o.trans hbl3)
      clear hx3 hr3 hb3 hn3 hbl3
      refine hK _ _ (HS8.o _ HW9.o) ?_
      clear hK K'
      iterate 1 (refine Kit.ghd (h:= ?_))
      refine Kit.gplan_op (by rfl) (by rfl) fun K' hK=> ?_
      go_simp
      go_at_call 147
      with_reducible refine (cloneHead_any hx.h.dev hx.h.seq hx.h.sum hx.h.idx hx.a1 hx.h.ps.length hx.c1 hx.a2 hx.h.qs.length hx.c2 hx.h.ps hx.h.qs rfl rfl (by rw [HLN.o.head];exact HSM.o.1) (by rw [HLN.o.head];exact HSM.o.2) w9 (HHX8.o.1.1.later HW9.o) (HHX8.o.1.2.later HW9.o)).mono ?_
      rintro e w10 ⟨p1,cp1,p2,cp2,rfl,_,_,hp10,hq10,hbp1,hbp2,h10⟩
      have HP10:=hid hp10
      have HQ10:=hid hq10
      have HBP1:=hid hbp1
      have HBP2:=hid hbp2
      have HW10:Hid (Below V8.heap.size V8 w10):=hid (HW9.o.trans (h10.mono HW9.o.size))
      have H910:Hid (Below w9.heap.size w9 w10):=hid h10
      clear hp10 hq10 hbp1 hbp2 h10
      refine hK _ _ (HS8.o _ HW10.o) ?_
      clear hK K'
      refine Kit.gplan_op (by rfl) (by rfl) fun K' hK=> ?_
      go_simp
      go_at_call 147
      with_reducible refine (cloneHead_any x.h.dev (q:Int) x.h.sum x.h.idx x.a1 x.h.ps.length x.c1 x.a2 x.h.qs.length x.c2 x.h.ps x.h.qs rfl rfl HSX.o.1 HSX.o.2 w10 (HHX8.o.2.1.later HW10.o) (HHX8.o.2.2.later HW10.o)).mono ?_
      rintro e w11 ⟨p3,cp3,p4,cp4,rfl,_,_,hp11,hq11,hbp3,hbp4,h11⟩
      have HP11:=hid hp11
      have HQ11:=hid hq11
      have HBP3:=hid hbp3
      have HBP4:=hid hbp4
      have HW11:Hid (Below V8.heap.size V8 w11):=hid (HW10.o.trans (h11.mono HW10.o.size))
      have H1011:Hid (Below w10.heap.size w10 w11):=hid h11
      clear hp11 hq11 hbp3 hbp4 h11
      refine hK _ _ (HS8.o _ HW11.o) ?_
      clear hK K'
      iterate 4 (refine Kit.ghd (h:= ?_))
      have HG11:Hid (w11.heap[g]? =some (.cells (lineRow l.pub (.slice al L cl) (.slice sl L cs) (sd:Int) hx true f0 f1 f2 f3 f4 f5 f6 f7 f8 f9 f10 f11 f12 f13 f14) 222 (0,0))):=hid ((HW11.o.block g (gS HG8.o).1).trans HG8.o)
      obtain ⟨y0,y1,y2,y3,y4,y5,y6,y7,y8,y9,y10,y11,y12,y13,y14,yf⟩:=line_cellsF HG11.o
      refine Kit.gplan_op (by rfl) (by rfl) fun K' hK=> ?_
      go_simp
      obtain ⟨VF,hVF⟩: ∃VF,VF=(((((((((((((((w11.setCell ⟨g,11,none⟩ (.int .i64 x.h.dev)).setCell ⟨g,12,none⟩ (.slice (some ⟨bl3,0,none⟩) sd sd)).setCell ⟨g,13,none⟩ (.slice (some ⟨B5,0,none⟩) (b+K) cp5)).setCell ⟨g,14,none⟩ (.int .i64 hx.h.dev)).setCell ⟨g,15,none⟩ (.int .i64 hx.h.seq)).setCell ⟨g,16,none⟩ (.string hx.h.sum)).setCell ⟨g,17,none⟩ (.int .i64 hx.h.idx)).setCell ⟨g,18,none⟩ (.slice p1 hx.h.ps.length cp1)).setCell ⟨g,19,none⟩ (.slice p2 hx.h.qs.length cp2)).setCell ⟨g,20,none⟩ (.int .i64 x.h.dev)).setCell ⟨g,21,none⟩ (.int .i64 (q:Int))).setCell ⟨g,22,none⟩ (.string x.h.sum)).setCell ⟨g,23,none⟩ (.int .i64 x.h.idx)).setCell ⟨g,24,none⟩ (.slice p3 x.h.ps.length cp3)).setCell ⟨g,25,none⟩ (.slice p4 x.h.qs.length cp4)):=⟨_,rfl⟩
      have HGF:Hid (VF.heap[g]? =some (.cells (lineRow l.pub (.slice al L cl) (.slice sl L cs) (sd:Int) hx true (.int .i64 x.h.dev) (.slice (some ⟨bl3,0,none⟩) sd sd) (.slice (some ⟨B5,0,none⟩) (b+K) cp5) (.int .i64 hx.h.dev) (.int .i64 hx.h.seq) (.string hx.h.sum) (.int .i64 hx.h.idx) (.slice p1 hx.h.ps.length cp1) (.slice p2 hx.h.qs.length cp2) (.int .i64 x.h.dev) (.int .i64 (q:Int)) (.string x.h.sum) (.int .i64 x.h.idx) (.slice p3 x.h.ps.length cp3) (.slice p4 x.h.qs.length cp4)) 222 (0,0))):=hid (by
       rw [hVF]
       exact line_putF (.int .i64 x.h.dev) (.slice (some ⟨bl3,0,none⟩) sd sd) (.slice (some ⟨B5,0,none⟩) (b+K) cp5) (.int .i64 hx.h.dev) (.int .i64 hx.h.seq) (.string hx.h.sum) (.int .i64 hx.h.idx) (.slice p1 hx.h.ps.length cp1) (.slice p2 hx.h.qs.length cp2) (.int .i64 x.h.dev) (.int .i64 (q:Int)) (.string x.h.sum) (.int .i64 x.h.idx) (.slice p3 x.h.ps.length cp3) (.slice p4 x.h.qs.length cp4) HG11.o)
      have HCF:Hid (Chg (fun k _=>k=g) w11 VF):=hid (by
       rw [hVF]
       exact (((((((((((((((Chg.refl (fun k _=>k=g) w11).setCell (b:=g) (o:=11) _ rfl).setCell (b:=g) (o:=12) _ rfl).setCell (b:=g) (o:=13) _ rfl).setCell (b:=g) (o:=14) _ rfl).setCell (b:=g) (o:=15) _ rfl).setCell (b:=g) (o:=16) _ rfl).setCell (b:=g) (o:=17) _ rfl).setCell (b:=g) (o:=18) _ rfl).setCell (b:=g) (o:=19) _ rfl).setCell (b:=g) (o:=20) _ rfl).setCell (b:=g) (o:=21) _ rfl).setCell (b:=g) (o:=22) _ rfl).setCell (b:=g) (o:=23) _ rfl).setCell (b:=g) (o:=24) _ rfl).setCell (b:=g) (o:=25) _ rfl)
      rw [← hVF]
      clear hVF y0 y1 y2 y3 y4 y5 y6 y7 y8 y9 y10 y11 y12 y13 y14 yf
      have HHF:Hid (VF.heap[M]? =some (.cells #[.int .i64 x.h.dev,.int .i64 (q:Int),.string x.h.sum,.int .i64 x.h.idx,.slice x.a1 x.h.ps.length x.c1,.slice x.a2 x.h.qs.length x.c2] 94 (0,0))):=hid ((HCF.o.other M (by have:=HW11.o.size;have:=(gS HH8.o).1;omega) (fun i e=>by have:=HGN.o;omega)).trans ((HW11.o.block M (gS HH8.o).1).trans HH8.o))
      refine hK _ _ (by
       obtain ⟨_,m1,_,m3,⟨m4,m5,m6,m7,m8,m9⟩,_,_⟩:=line_cells HGF.o
       exact ⟨row6 HHF.o,m1,m3,m4,m5,m6,m7,m8,m9⟩) ?_
      clear hK K'
      refine Kit.gdn (h:=?_)
      go_wp2_with fail
      go_ret
      refine ⟨_,rfl,?_⟩
      have hh:x.h.seq=(q:Int):=HQ.o
      have hfk:l.fork=none:=by
       have hb:=HBF.o
       cases hf:l.fork with
       | none=>rfl
       | some f=>rw [hf] at hb;cases hb
      rw [show mergeL l gv x.h=({ l with fork:=some (forkOf l b (ys.map EV.e) x.h) },0) by
       unfold mergeL
       rw [HFS.o];simp only;rw [show x.h.seq.toNat=q by rw [HQ.o];rfl,HSD.o]
       rw [if_pos HA.o,hfk]]
      have hcw:Chg (fun k _=>k=g) w VF:=(HCW8.o.trans (Chg.of_below HW11.o)).trans HCF.o
      have hst:=HSTEP.o _ hcw
      have hnw:w.heap.size=M:=HM.o
      have hgn:g<M:=HGN.o
      have hu:M≤U.heap.size:=HMU.o
      have h8:w5.heap.size≤V8.heap.size:=HC8.o.size
      have h5s:U.heap.size≤w5.heap.size:=HW5.o.size
      have h4s:U.heap.size≤w4.heap.size:=HW4.o.size
      have h3s:U.heap.size≤w3.heap.size:=HW3.o.size
      have hb5:w4.heap.size=B5:=HB5.o
      have h9s:V8.heap.size≤w9.heap.size:=HW9.o.size
      have h10s:V8.heap.size≤w10.heap.size:=HW10.o.size
      have hc5:Chg (fun k _=>k=g) w5 VF:=(HC8.o.trans (Chg.of_below HW11.o)).trans HCF.o
      have hc4:Chg (fun k _=>k=g) w4 VF:=(Chg.of_below H45.o).trans hc5
      have hc3:Chg (fun k _=>k=g) w3 VF:=(Chg.of_below H34.o).trans hc4
      have hc9:Chg (fun k _=>k=g) w9 VF:=((Chg.of_below H910.o).trans (Chg.of_below H1011.o)).trans HCF.o
      have hc10:Chg (fun k _=>k=g) w10 VF:=(Chg.of_below H1011.o).trans HCF.o
      have hz: ∀{v:Value} {n:Nat} {xs:List EV} {es:List Ent},VF.ownsRow M 92 6 v n (evs xs)→xs.map EV.e=es→n=es.length→(∀x ∈ xs,NewE VF M x)→LogAt VF G 0 v es:=fun h1 h2 h3 h4=>by
       subst h3
       exact ⟨_,h2,own_base h1 (Nat.zero_le _),fun b hb=>HO.o.hi b (by rw [hnw];exact (h1.lt b hb).1),fun y hy=>⟨(h4 y hy).1,(h4 y hy).2.1,fun _ ad e=>HO.o.hi _ (by rw [hnw];exact (h4 y hy).2.2 ad e)⟩⟩
      refine ⟨G,rfl,⟨_,_,ss,hx,.int .i64 x.h.dev,.slice (some ⟨bl3,0,none⟩) sd sd,.slice (some ⟨B5,0,none⟩) (b+K) cp5,.int .i64 hx.h.dev,.int .i64 hx.h.seq,.string hx.h.sum,.int .i64 hx.h.idx,.slice p1 hx.h.ps.length cp1,.slice p2 hx.h.qs.length cp2,.int .i64 x.h.dev,.int .i64 (q:Int),.string x.h.sum,.int .i64 x.h.idx,.slice p3 x.h.ps.length cp3,.slice p4 x.h.qs.length cp4,⟨by simp only [Option.isSome_some];rw [HSD.o];exact HGF.o,HLN.o.tag,⟨xsl,HX1E.o,?_,HX3T.o,fun y hy=>(HX4O.o y hy).step hst (by have:=HD.o;omega)⟩,?_,HSTG.o,HSUE.o,HLN.o.head,HLN.o.hok.step hst (by have:=HD.o;omega),?_⟩⟩,HO.o.later hcw.size,hst,fun _=> .inl rfl⟩
      ·show VF.ownsRow 0 92 6 _ l.log.length _
       rw [HLE.o]
       exact ownsRow_keepM HXLO.o hcw (fun b hb i e=>not_row_of HXLO.o HRW.o (by decide) (by rw [← e];exact hb.symm))
      ·show VF.ownsRow 0 9 1 _ l.log.length _
       rw [HLE.o]
       exact ownsRow_keepM HSLO.o hcw (fun b hb i e=>not_row_of HSLO.o HRW.o (by decide) (by rw [← e];exact hb.symm))
      ·refine ⟨rfl,hz (xs:=xs3) (n:=sd) ?_ ?_ ?_ ?_,hz (xs:=xs1++xs2) (n:=b+K) ?_ ?_ ?_ ?_,⟨hx.h,p1,cp1,p2,cp2⟩,⟨x.h,p3,cp3,p4,cp4⟩,HLN.o.head,rfl,?_,?_,rfl,by rw [← hh];rfl⟩
       ·have h1:=RowS.own (f:=EV.cells) (fun _=>rfl) HR3.o (Nat.le_refl _)
        have hl3:xs3.length=sd:=by have:=congrArg List.length HX3'.o;rw [List.length_map,HTK.o sd HSB.o.1] at this;exact this
        rw [hl3] at h1
        have hb3:=HBL3.o
        exact ownsRow_keepM (own_base h1 (by omega)) hc9 (fun b hb i e=>by have hb2:bl3=b:=Option.some.inj hb;omega)
       ·rw [HX3'.o,← HSD.o];rfl
       ·show sd=(l.log.take l.sealed').length
        rw [HSD.o];exact (HTK.o sd HSB.o.1).symm
       ·intro y hy
        have h1:=HN3.o y hy
        have hd8:V8.drew.heap.size=V8.heap.size:=rfl
        exact (h1.mono (B':=M) (by omega)).chg hc9 (fun hne ad e i hi=>by have:=h1.2.2 ad e;omega)
       ·exact ownsRow_keepM (own_base HO5.o (by omega)) hc5 (fun b hb i e=>by have hb2:B5=b:=Option.some.inj hb;omega)
       ·rw [List.map_append,HX1'.o,HX2'.o];rfl
       ·show b+K=(l.log.take b++ys.map EV.e).length
        rw [List.length_append,HTK.o b HBK.o.2.1,HKM.o]
       ·intro y hy
        have hd8:U.drew.heap.size=U.heap.size:=rfl
        rcases List.mem_append.1 hy with h1 | h1
        ·have h2:=HN1.o y h1
         exact (h2.mono (B':=M) (by omega)).chg hc3 (fun hne ad e i hi=>by have:=h2.2.2 ad e;omega)
        ·have h2:=HN2.o y h1
         exact (h2.mono (B':=M) (by omega)).chg hc4 (fun hne ad e i hi=>by have:=h2.2.2 ad e;omega)
       ·exact ⟨HP10.o.keep hc10 (fun ad e _ i hi=>by have:=HBP1.o ad e;omega),HQ10.o.keep hc10 (fun ad e _ i hi=>by have:=HBP2.o ad e;omega),fun _ ad e=>HO.o.hi _ (by have:=HBP1.o ad e;omega),fun _ ad e=>HO.o.hi _ (by have:=HBP2.o ad e;omega)⟩
       ·have h11s:w10.heap.size≤w11.heap.size:=H1011.o.size
        exact ⟨HP11.o.keep HCF.o (fun ad e _ i hi=>by have:=HBP3.o ad e;omega),HQ11.o.keep HCF.o (fun ad e _ i hi=>by have:=HBP4.o ad e;omega),fun _ ad e=>HO.o.hi _ (by have:=HBP3.o ad e;omega),fun _ ad e=>HO.o.hi _ (by have:=HBP4.o ad e;omega)⟩
   ·have HA:Hid (¬b<min q sd):=hid hA
    by_cases hB:q≤sd
    ·have HB:Hid (q≤sd):=hid hB
     have hqs:(q:Int)≤(sd:Int):=by omega
     have hmi: ¬(b:Int)<min (q:Int) (sd:Int):=by omega
     have hq4:q≤4096:=HBK.o.2.2.1
     go_upto_region 4 with fail
     go_quiet (fail)
     go_upto_region 10 with fail
     refine wp_over (fun U=>Hid (U.heap[M]? =some (.cells #[.int .i64 x.h.dev,.int .i64 (q:Int),.string x.h.sum,.int .i64 x.h.idx,.slice x.a1 x.h.ps.length x.c1,.slice x.a2 x.h.qs.length x.c2] 94 (0,0)))∧Hid (U.heap[X]? =some (.cells #[.int .i64 (b:Int),.slice a7 K c7,.slice a8 K c8] 286 (0,0)))∧Hid (U.heap[g]? =some (.cells (lineRow l.pub (.slice al L cl) (.slice sl L cs) (sd:Int) hx bf f0 f1 f2 f3 f4 f5 f6 f7 f8 f9 f10 f11 f12 f13 f14) 222 (0,0)))∧Hid (Below M w U)∧Hid (Below V.heap.size V U)) ⟨HHV,HTV,HLV,hid (HBV.o.trans (below_drewN.mono (by have:=HX1.o;have:=HV1.o;omega))),hid below_drewN⟩ ?_
     rintro U ⟨HHU,HTU,HLU,HBU,HVU⟩
     clear h0 h1 h2 h3 h4 h5 t0 t1 t2 k0 l1 l2 l3 k4 k5 kf hmi hq4
     obtain ⟨h0,h1,h2,h3,h4,h5⟩:=row6 HHU.o
     obtain ⟨t0,t1,t2⟩:=row3T HTU.o
     obtain ⟨k0,l1,l2,l3,k4,k5,kf⟩:=line_cells HLU.o
     go_quiet (fail)
     go_wp2_with fail
     go_ret
     refine ⟨_,rfl,?_⟩
     rw [show mergeL l gv x.h=(l,0) by 
      unfold mergeL
      rw [HFS.o];simp only;rw [show x.h.seq.toNat=q by rw [HQ.o];rfl,HSD.o]
      rw [if_neg HA.o,if_pos HB.o]]
     exact MergeOut.same HLA.o HO.o (by rw [HM.o];exact (HBU.o.trans (below_drewN.mono (by rw [← HM.o];exact HBU.o.size))))
    ·have HB:Hid (¬q≤sd):=hid hB
     have hqs: ¬(q:Int)≤(sd:Int):=by omega
     have hmi: ¬(b:Int)<min (q:Int) (sd:Int):=by omega
     have hq4:q≤4096:=HBK.o.2.2.1
     go_upto_region 4 with fail
     go_quiet (fail)
     go_upto_region 10 with fail
     refine wp_over (fun U=>Hid (U.heap[M]? =some (.cells #[.int .i64 x.h.dev,.int .i64 (q:Int),.string x.h.sum,.int .i64 x.h.idx,.slice x.a1 x.h.ps.length x.c1,.slice x.a2 x.h.qs.length x.c2] 94 (0,0)))∧Hid (U.heap[X]? =some (.cells #[.int .i64 (b:Int),.slice a7 K c7,.slice a8 K c8] 286 (0,0)))∧Hid (U.heap[g]? =some (.cells (lineRow l.pub (.slice al L cl) (.slice sl L cs) (sd:Int) hx bf f0 f1 f2 f3 f4 f5 f6 f7 f8 f9 f10 f11 f12 f13 f14) 222 (0,0)))∧Hid (Below M w U)∧Hid (Below V.heap.size V U)) ⟨HHV,HTV,HLV,hid (HBV.o.trans (below_drewN.mono (by have:=HX1.o;have:=HV1.o;omega))),hid below_drewN⟩ ?_
     rintro U ⟨HHU,HTU,HLU,HBU,HVU⟩
     clear h0 h1 h2 h3 h4 h5 t0 t1 t2 k0 l1 l2 l3 k4 k5 kf hmi hq4
     obtain ⟨h0,h1,h2,h3,h4,h5⟩:=row6 HHU.o
     obtain ⟨t0,t1,t2⟩:=row3T HTU.o
     obtain ⟨k0,l1,l2,l3,k4,k5,kf⟩:=line_cells HLU.o
     go_quiet (fail)
     go_upto_region 12 with fail
     refine wp_over (fun U=>Hid (U.heap[M]? =some (.cells #[.int .i64 x.h.dev,.int .i64 (q:Int),.string x.h.sum,.int .i64 x.h.idx,.slice x.a1 x.h.ps.length x.c1,.slice x.a2 x.h.qs.length x.c2] 94 (0,0)))∧Hid (U.heap[X]? =some (.cells #[.int .i64 (b:Int),.slice a7 K c7,.slice a8 K c8] 286 (0,0)))∧Hid (U.heap[g]? =some (.cells (lineRow l.pub (.slice al L cl) (.slice sl L cs) (sd:Int) hx bf f0 f1 f2 f3 f4 f5 f6 f7 f8 f9 f10 f11 f12 f13 f14) 222 (0,0)))∧Hid (Below M w U)∧Hid (Below V.heap.size V U)) ⟨HHU,HTU,HLU,hid (HBU.o.trans (below_drewN.mono (by rw [← HM.o];exact HBU.o.size))),hid (HVU.o.trans (below_drewN.mono HVU.o.size))⟩ ?_
     clear h0 h1 h2 h3 h4 h5 t0 t1 t2 k0 l1 l2 l3 k4 k5 kf HHU HTU HLU HBU HVU
     rintro U ⟨HHU,HTU,HLU,HBU,HVU⟩
     obtain ⟨h0,h1,h2,h3,h4,h5⟩:=row6 HHU.o
     obtain ⟨t0,t1,t2⟩:=row3T HTU.o
     obtain ⟨k0,l1,l2,l3,k4,k5,kf⟩:=line_cells HLU.o
     clear hqs
     by_cases hbq:b<q
     ·have hbi:(b:Int)<(q:Int):=by omega
      have HBQ:Hid (b<q):=hid hbq
      clear hbq
      go_upto_region 13 with fail
      clear hbi
      have hK0:0<K:=by have:=HBK.o;have:=HBQ.o;omega
      obtain ⟨b7,e7⟩: ∃b,a7=some ⟨b,0,none⟩:=by
       obtain ⟨b,c,e⟩:=own_some HE7.o hK0
       injection e with e _ _
       exact ⟨b,e⟩
      subst e7
      obtain ⟨b8,e8⟩: ∃b,a8=some ⟨b,0,none⟩:=by
       obtain ⟨b,c,e⟩:=own_some HE8.o hK0
       injection e with e _ _
       exact ⟨b,e⟩
      subst e8
      have HK0:Hid (0<K):=hid hK0
      clear hK0
      have hslE: ∀(k:Nat),k≤cl→ ∀W,(Instr.slice 111 (.slice al L cl) none (some (.int .i64 (k:Int))) none).run Tryz.prog W= .ok (.slice al k cl) W:=fun k hk W=>by
       have h1:=sliceE_h al L cl k hk W
       rw [sub6_id HALC.o] at h1
       exact h1
      have HLBE:Hid (∀W k,Below M w W→k≤L→EntsAt W al (l.log.take k)):=hid (fun W k hW hk=>by
       have h1:=ents_sub (cap:=cl) (HES.o.later (by rw [HM.o];exact hW)) (by rw [HLE.o];exact HCL.o) 0 k
       rw [sub6_id HALC.o,List.drop_zero] at h1
       exact h1)
      have HYE:Hid (∀W,Below V.heap.size V W→EntsAt W (some ⟨b7,0,none⟩) (ys.map EV.e)):=hid (fun W hW=>ents_of_own (own_later HE7.o hW) (fun y hy=>⟨(HXB.o y (HYX.o y hy)).1.1,((HXB.o y (HYX.o y hy)).1.2.1.later (by rw [HM.o];exact HBV.o)).later hW⟩))
      have HYB:Hid (∀e ∈ ys.map EV.e,e.body.length≤1000000000):=hid (fun e he=>by
       obtain ⟨y,hy,rfl⟩:=List.mem_map.1 he
       exact (HXB.o y (HYX.o y hy)).2)
      have HKM:Hid ((ys.map EV.e).length=K):=hid (by rw [List.length_map];exact HKE.o)
      have HTK:Hid (∀k,k≤L→(l.log.take k).length=k):=hid (fun k hk=>by rw [List.length_take,HLE.o];omega)
      have HLTK:Hid (∀k,∀e ∈ l.log.take k,e.body.length≤1000000000):=hid (fun k e he=>HLB.o e (List.mem_of_mem_take he))
      have HSU6:Hid (∀W,Below U.heap.size U W→W.cell? ⟨g,1,none⟩=some (.slice al L cl)∧W.cell? ⟨X,0,none⟩=some (.int .i64 (b:Int))∧W.cell? ⟨X,1,none⟩=some (.slice (some ⟨b7,0,none⟩) K c7)):=hid (fun W hW=>by
       obtain ⟨_,m1,_⟩:=line_cells ((hW.block g (gS HLU.o).1).trans HLU.o)
       obtain ⟨s0,s1,_⟩:=row3T ((hW.block X (gS HTU.o).1).trans HTU.o)
       exact ⟨m1,s0,s1⟩)
      have HMU:Hid (M≤U.heap.size):=hid (by rw [← HM.o];exact HBU.o.size)
      have HVS:Hid (V.heap.size≤U.heap.size):=hid HVU.o.size
      clear hslE
      have hslF: ∀W,(Instr.slice 111 (.slice al L cl) none (some (.int .i64 (b:Int))) (some (.int .i64 (b:Int)))).run Tryz.prog W= .ok (.slice al b b) W:=fun W=>by
       have h1:=sliceE_hm al L cl b (by have:=HBK.o;have:=HCL.o;omega) W
       rw [sub6_id HALC.o] at h1
       exact h1
      refine Kit.wp_region_lplan (fun W=>W.cell? ⟨g,1,none⟩=some (.slice al L cl)∧W.cell? ⟨X,0,none⟩=some (.int .i64 (b:Int))∧W.cell? ⟨X,1,none⟩=some (.slice (some ⟨b7,0,none⟩) K c7)) 16 [(true,0),(true,1),(true,2),(true,3),(true,4),(true,5),(true,6),(true,7),(true,8),(true,9),(true,10),(true,11),(false,12),(false,13),(false,14),(true,15),(false,16)] (by kernel_rfl) (by kernel_rfl) (by kernel_rfl) (by kernel_rfl) ⟨l1,t0,t1⟩ ?_
      iterate 12 (refine Kit.lhd (h:=?_))
      refine Kit.lplan_op (by rfl) (by rfl) (fun K' hK=> ?_) (by decide)
      go_simp
      clear hslF
      have HD0:Hid (Below U.heap.size U U.drew):=hid (Below.refl _ U).drew
      go_at_call 146
      with_reducible refine (cloneLog_any (some ⟨b7,0,none⟩) c7 K (ys.map EV.e) HKM.o (by have:=HBK.o;omega) HYB.o U.drew (HYE.o _ (HVU.o.trans (HD0.o.mono HVS.o)))).mono ?_
      rintro e w3 ⟨bl2,xs2,rfl,hx2,hr2,hb2,hn2,hbl2⟩
      have HX2':=hid hx2
      have HR2:=hid hr2
      have HN2:=hid hn2
      have HW3:Hid (Below U.heap.size U w3):=hid (HD0.o.trans hbl2)
      clear hx2 hr2 hb2 hn2 hbl2
      refine hK _ _ (HSU6.o _ HW3.o) ?_
      clear hK K'
      refine Kit.lplan_op (by rfl) (by rfl) (fun K' hK=> ?_) (by decide)
      have HXL2:Hid (xs2.length=K):=hid (by have:=congrArg List.length HX2'.o;rw [List.length_map,HKM.o] at this;exact this)
      have HXSL:Hid (xsl.length=L):=hid (by have:=congrArg List.length HX1E.o;rw [List.length_map,HLE.o] at this;exact this)
      have HHOLD:Hid ((al=none∧b=0)∨ ∃b',al=some b'∧ ∀j u,(evs (xsl.take b))[j]? =some u→w3.cell? (b'.add j)=some u):=hid (by
       rcases HALC.o with ⟨e,e0⟩ | ⟨bA,e⟩
       ·exact .inl ⟨e,by have:=HBK.o;omega⟩
       ·have h1:=HXLO.o
        rw [e] at h1
        exact .inr ⟨_,e,own_src_take (own_later h1 (by rw [HM.o];exact HBU.o.trans (HW3.o.mono HMU.o)))⟩)
      refine wp_clip_ents (w0:=w3) (.tmp 97) (.tmp 100) (by rfl) al b (xsl.take b) (by rfl) (by rw [List.length_take,HXSL.o];have:=HBK.o;omega) HHOLD.o (by have:=HBK.o;omega) ⟨bl2,0,none⟩ K K xs2 (by rfl) HXL2.o (by have:=HBK.o;omega) HK0.o (RowS.src HR2.o) ?_
      intro cp5 w4 ho4 hb4
      have HO4:=hid ho4
      have HW4:Hid (Below U.heap.size U w4):=hid (HW3.o.trans (hb4.mono HW3.o.size))
      have H34:Hid (Below w3.heap.size w3 w4):=hid hb4
      clear ho4 hb4
      refine hK _ _ (HSU6.o _ HW4.o) ?_
      clear hK K' h0 h1 h2 h3 h4 h5 t0 t1 t2 k0 l1 l2 l3 k4 k5 kf
      have HL4:Hid (w4.heap[g]? =some (.cells (lineRow l.pub (.slice al L cl) (.slice sl L cs) (sd:Int) hx bf f0 f1 f2 f3 f4 f5 f6 f7 f8 f9 f10 f11 f12 f13 f14) 222 (0,0))):=hid ((HW4.o.block g (gS HLU.o).1).trans HLU.o)
      obtain ⟨k0,l1,l2,l3,k4,k5,kf⟩:=line_cells HL4.o
      refine Kit.lplan_op (by rfl) (by rfl) (fun K' hK=> ?_) (by decide)
      go_simp
      refine hK _ _ (HSU6.o _ HW4.o) ?_
      clear hK K'
      iterate 1 (refine Kit.lhd (h:=?_))
      refine Kit.lplan_last (by rfl) (by rfl) fun K' hK=> ?_
      go_simp
      have HGN:Hid (g<M):=hid (by rw [← HM.o];exact (gS HRW.o).1)
      obtain ⟨B5,hB5⟩:=ex_eq w3.heap.size
      have HB5:=hid hB5
      rw [hB5] at HO4 ⊢
      clear hB5
      obtain ⟨V13,hV13⟩: ∃V13,V13=w4.setCell ⟨g,1,none⟩ (.slice (some ⟨B5,0,none⟩) (b+K) cp5):=⟨_,rfl⟩
      have HG13:Hid (V13.heap[g]? =some (.cells (lineRow l.pub (.slice (some ⟨B5,0,none⟩) (b+K) cp5) (.slice sl L cs) (sd:Int) hx bf f0 f1 f2 f3 f4 f5 f6 f7 f8 f9 f10 f11 f12 f13 f14) 222 (0,0))):=hid (by rw [hV13];exact heap_setCell_same w4 g 1 _ _ _ HL4.o)
      have HC13:Hid (Chg (fun k _=>k=g) w4 V13):=hid (by rw [hV13];exact Chg.setCell1 _ _ _ _ rfl)
      rw [← hV13]
      clear hV13 k0 l1 l2 l3 k4 k5 kf
      have HX13:Hid (V13.heap[X]? =some (.cells #[.int .i64 (b:Int),.slice (some ⟨b7,0,none⟩) K c7,.slice (some ⟨b8,0,none⟩) K c8] 286 (0,0))):=hid ((HC13.o.other X (by have:=HW4.o.size;have:=(gS HTU.o).1;omega) (fun i e=>by have:=HGN.o;have:=HX1.o;omega)).trans ((HW4.o.block X (gS HTU.o).1).trans HTU.o))
      have HM13:Hid (V13.heap[M]? =some (.cells #[.int .i64 x.h.dev,.int .i64 (q:Int),.string x.h.sum,.int .i64 x.h.idx,.slice x.a1 x.h.ps.length x.c1,.slice x.a2 x.h.qs.length x.c2] 94 (0,0))):=hid ((HC13.o.other M (by have:=HW4.o.size;have:=(gS HHU.o).1;omega) (fun i e=>by have:=HGN.o;omega)).trans ((HW4.o.block M (gS HHU.o).1).trans HHU.o))
      refine hK _ _ ?_
      clear hK K'
      refine Kit.ldn (h:=?_)
      go_upto_region 14 with fail
      have hslS: ∀W,(Instr.slice 43 (.slice sl L cs) none (some (.int .i64 (b:Int))) (some (.int .i64 (b:Int)))).run Tryz.prog W= .ok (.slice sl b b) W:=fun W=>by
       have h1:=sliceS_hm sl L cs b (by have:=HBK.o;have:=HCS.o;omega) W
       rw [subA_id HSLC.o] at h1
       exact h1
      have HS14:Hid (∀W:World,W.heap[g]? =V13.heap[g]? →W.heap[X]? =V13.heap[X]? →W.cell? ⟨g,2,none⟩=some (.slice sl L cs)∧W.cell? ⟨X,0,none⟩=some (.int .i64 (b:Int))∧W.cell? ⟨X,2,none⟩=some (.slice (some ⟨b8,0,none⟩) K c8)):=hid (fun W h1 h2=>by
       obtain ⟨_,_,m2,_⟩:=line_cells (h1.trans HG13.o)
       obtain ⟨s0,_,s2⟩:=row3T (h2.trans HX13.o)
       exact ⟨m2,s0,s2⟩)
      obtain ⟨l2,t0,t2⟩:=HS14.o V13.drew rfl rfl
      refine Kit.wp_region_lplan (fun W=>W.cell? ⟨g,2,none⟩=some (.slice sl L cs)∧W.cell? ⟨X,0,none⟩=some (.int .i64 (b:Int))∧W.cell? ⟨X,2,none⟩=some (.slice (some ⟨b8,0,none⟩) K c8)) 15 [(true,0),(true,1),(true,2),(true,3),(true,4),(true,5),(true,6),(true,7),(true,8),(true,9),(true,10),(true,11),(false,12),(false,13),(true,14),(false,15)] (by kernel_rfl) (by kernel_rfl) (by kernel_rfl) (by kernel_rfl) ⟨l2,t0,t2⟩ ?_
      iterate 12 (refine Kit.lhd (h:=?_))
      refine Kit.lplan_op (by rfl) (by rfl) (fun K' hK=> ?_) (by decide)
      clear hslS
      have HWU:Hid (Chg (fun k _=>k=g) w V13.drew):=hid ((((Chg.of_below (by rw [HM.o];exact HBU.o):Chg (fun k _=>k=g) w U).trans (Chg.of_below HW4.o)).trans HC13.o).drew)
      have HSLD:Hid (V13.drew.ownsRow 0 9 1 (.slice sl L cs) L (strV ss)):=hid (ownsRow_keepM HSLO.o HWU.o (fun b hb i e=>not_row_of HSLO.o HRW.o (by decide) (by rw [← e];exact hb.symm)))
      have HHOLS:Hid ((sl=none∧b=0)∨ ∃b',sl=some b'∧ ∀j u,(strV (ss.take b))[j]? =some u→V13.drew.cell? (b'.add j)=some u):=hid (by
       rcases HSLC.o with ⟨e,e0⟩ | ⟨bA,e⟩
       ·exact .inl ⟨e,by have:=HBK.o;omega⟩
       ·have h1:=HSLD.o
        rw [e] at h1
        exact .inr ⟨_,e,strs_src_take h1⟩)
      have HVB:Hid (M+1≤V.heap.size):=hid (by have:=HX1.o;have:=HV1.o;omega)
      have HE8D:Hid (V13.drew.ownsRow (M+1) 9 1 (.slice (some ⟨b8,0,none⟩) K c8) K (strV us)):=hid (ownsRow_keepM (own_later (own_later HE8.o HVU.o) HW4.o) HC13.o.drew (fun b hb i e=>by have:=(HE8.o.lt b hb).1;have:=HGN.o;omega))
      have HUL:Hid (us.length=K):=hid (by have:=congrArg List.length HSU.o;rw [List.length_map,List.length_map,HKE.o] at this;exact this)
      refine wp_clip_strs (w0:=V13.drew) (.tmp 113) (.tmp 115) (by rfl) sl b (ss.take b) (by rfl) (by rw [List.length_take,HSL.o];have:=HBK.o;omega) HHOLS.o (by have:=HBK.o;omega) ⟨b8,0,none⟩ K c8 us (by rfl) HUL.o (by have:=HBK.o;omega) HK0.o (strs_src HE8D.o) ?_
      intro cp6 w5 ho5 hb5
      have HO5:=hid ho5
      have HW5:Hid (Below V13.heap.size V13 w5):=hid ((Below.refl _ V13).drew.trans hb5)
      clear ho5 hb5
      refine hK _ _ (HS14.o w5 (HW5.o.block g (gS HG13.o).1) (HW5.o.block X (gS HX13.o).1)) ?_
      clear hK K' l2 t0 t2
      have HL5:=hid ((HW5.o.block g (gS HG13.o).1).trans HG13.o)
      obtain ⟨k0,l1,l2,l3,k4,k5,kf⟩:=line_cells HL5.o
      refine Kit.lplan_op (by rfl) (by rfl) (fun K' hK=> ?_) (by decide)
      go_simp
      refine hK _ _ (HS14.o w5 (HW5.o.block g (gS HG13.o).1) (HW5.o.block X (gS HX13.o).1)) ?_
      clear hK K'
      iterate 1 (refine Kit.lhd (h:=?_))
      refine Kit.lplan_last (by rfl) (by rfl) fun K' hK=> ?_
      go_simp
      obtain ⟨B6,hB6⟩:=ex_eq V13.heap.size
      have HB6:=hid hB6
      have HO6:Hid (w5.ownsRow B6 9 1 (.slice (some ⟨B6,0,none⟩) (b+K) cp6) (b+K) (strV (ss.take b++us))):=hid (by rw [← hB6];exact HO5.o)
      rw [hB6]
      clear hB6 HO5
      obtain ⟨V14,hV14⟩: ∃V14,V14=w5.setCell ⟨g,2,none⟩ (.slice (some ⟨B6,0,none⟩) (b+K) cp6):=⟨_,rfl⟩
      have HG14:Hid (V14.heap[g]? =some (.cells (lineRow l.pub (.slice (some ⟨B5,0,none⟩) (b+K) cp5) (.slice (some ⟨B6,0,none⟩) (b+K) cp6) (sd:Int) hx bf f0 f1 f2 f3 f4 f5 f6 f7 f8 f9 f10 f11 f12 f13 f14) 222 (0,0))):=hid (by rw [hV14];exact heap_setCell_same w5 g 2 _ _ _ HL5.o)
      have HC14:Hid (Chg (fun k _=>k=g) w5 V14):=hid (by rw [hV14];exact Chg.setCell1 _ _ _ _ rfl)
      rw [← hV14]
      clear hV14 k0 l1 l2 l3 k4 k5 kf
      refine hK _ _ ?_
      clear hK K'
      refine Kit.ldn (h:=?_)
      go_upto_region 15 with fail
      have HCW:Hid (Chg (fun k _=>k=g) w V14):=hid (((((Chg.of_below (by rw [HM.o];exact HBU.o):Chg (fun k _=>k=g) w U).trans (Chg.of_below HW4.o)).trans HC13.o).trans (Chg.of_below HW5.o)).trans HC14.o)
      refine wp_over (fun Y=> ∃(G':Nat→Nat) (vl vs:Value) (ss':List ByteArray),Hid (LineR Y G' (s+1+d) g { l with log:=if b<q then l.log.take b++ys.map EV.e else l.log } vl vs ss' hx f0 f1 f2 f3 f4 f5 f6 f7 f8 f9 f10 f11 f12 f13 f14)∧Hid (Own Y G' N0)∧Hid (Step G G' (fun t=>t=s+1+d) w Y)∧Hid (∀k,G' k=G k∨(s≤G' k∧G' k≤s+50))∧Hid (Y.heap[M]? =some (.cells #[.int .i64 x.h.dev,.int .i64 (q:Int),.string x.h.sum,.int .i64 x.h.idx,.slice x.a1 x.h.ps.length x.c1,.slice x.a2 x.h.qs.length x.c2] 94 (0,0)))∧True) (by
       have hnw:w.heap.size=M:=HM.o
       have hgn:g<M:=HGN.o
       have hu:M≤U.heap.size:=HMU.o
       have h3s:U.heap.size≤w3.heap.size:=HW3.o.size
       have hb5:w3.heap.size=B5:=HB5.o
       have hb6:V13.heap.size=B6:=HB6.o
       have h4s:w4.heap.size≤V13.heap.size:=HC13.o.size
       have h34s:w3.heap.size≤w4.heap.size:=H34.o.size
       have hl5:B5<w4.heap.size:=(HO4.o.lt B5 rfl).2
       have hl6:B6<w5.heap.size:=(HO6.o.lt B6 rfl).2
       have h5s:V13.heap.size≤w5.heap.size:=HW5.o.size
       have h14s:w5.heap.size≤V14.heap.size:=HC14.o.size
       have hc4:Chg (fun k _=>k=g) w4 V14:=(HC13.o.trans (Chg.of_below HW5.o)).trans HC14.o
       have hc3:Chg (fun k _=>k=g) w3 V14:=(Chg.of_below H34.o).trans hc4
       obtain ⟨G3,hG3⟩: ∃G3,G3=putTag (putTag G B5 (s+1+d)) B6 (s+1+d):=⟨_,rfl⟩
       have g5:G3 B5=s+1+d:=by
        rw [hG3]
        by_cases e:B5=B6
        ·rw [e];exact putTag_same _ _ _
        ·rw [putTag_ne e];exact putTag_same _ _ _
       have g6:G3 B6=s+1+d:=by rw [hG3];exact putTag_same _ _ _
       have gn: ∀k,k≠B5→k≠B6→G3 k=G k:=fun k h5 h6=>by rw [hG3,putTag_ne h6,putTag_ne h5]
       have hst:Step G G3 (fun t=>t=s+1+d) w V14:=⟨HCW.o.mono fun k i _ e=>by rw [e];exact HLN.o.tag,fun k hk=>gn k (by omega) (by omega)⟩
       have hd:=HD.o
       refine ⟨G3,.slice (some ⟨B5,0,none⟩) (b+K) cp5,.slice (some ⟨B6,0,none⟩) (b+K) cp6,ss.take b++us,⟨?_,(gn g (by omega) (by omega)).trans HLN.o.tag,⟨xsl.take b++xs2,?_,?_,fun k hk=> ?_,fun y hy=> ?_⟩,?_,fun k hk=> ?_,?_,HLN.o.head,HLN.o.hok.step hst (by omega),HLN.o.fork.step hst (by omega)⟩,⟨fun k hk=> ?_,fun k hk=> ?_,?_⟩,hst,fun k=> ?_,?_,trivial⟩
       ·show V14.heap[g]? =some (.cells (lineRow l.pub _ _ (l.sealed':Int) hx l.fork.isSome f0 f1 f2 f3 f4 f5 f6 f7 f8 f9 f10 f11 f12 f13 f14) 222 (0,0))
        rw [HSD.o,HBF.o]
        exact HG14.o
       ·show _=(if b<q then l.log.take b++ys.map EV.e else l.log)
        rw [if_pos HBQ.o,List.map_append,List.map_take,HX1E.o,HX2'.o]
       ·show V14.ownsRow 0 92 6 _ (if b<q then l.log.take b++ys.map EV.e else l.log).length _
        rw [if_pos HBQ.o,List.length_append,HTK.o b HBK.o.2.1,HKM.o]
        exact ownsRow_keepM (own_base HO4.o (Nat.zero_le _)) hc4 (fun b hb i e=>by have hb2:B5=b:=Option.some.inj hb;omega)
       ·have hb2:B5=k:=Option.some.inj hk
        rw [← hb2];exact g5
       ·rcases List.mem_append.1 hy with h1 | h1
        ·exact (HX4O.o y (List.mem_of_mem_take h1)).step hst (by omega)
        ·have h2:=HN2.o y h1
         have hd8:U.drew.heap.size=U.heap.size:=rfl
         refine ⟨h2.1,bytes_ne h2.2.1 hc3 (fun hne ad e i hi=>by have:=h2.2.2 ad e;omega),fun hne ad e=> ?_⟩
         have h3:=h2.2.1.blk ad e hne
         have h4:=h2.2.2 ad e
         rw [gn _ (by omega) (by omega)]
         exact HO.o.hi _ (by omega)
       ·show V14.ownsRow 0 9 1 _ (if b<q then l.log.take b++ys.map EV.e else l.log).length _
        rw [if_pos HBQ.o,List.length_append,HTK.o b HBK.o.2.1,HKM.o]
        exact ownsRow_keepM (own_base HO6.o (Nat.zero_le _)) HC14.o (fun b hb i e=>by have hb2:B6=b:=Option.some.inj hb;omega)
       ·have hb2:B6=k:=Option.some.inj hk
        rw [← hb2];exact g6
       ·show _=(if b<q then l.log.take b++ys.map EV.e else l.log).map sumE
        rw [if_pos HBQ.o,List.map_append,List.map_append,List.map_take,HSUE.o,HSU.o,List.map_take,List.map_map]
        rfl
       ·have:=HO.o.size
        rw [gn k (by omega) (by omega)]
        exact HO.o.lo k hk
       ·rw [gn k (by omega) (by omega)]
        exact HO.o.hi k (by omega)
       ·have:=HO.o.size;omega
       ·by_cases h5:k=B5
        ·rw [h5,g5];exact .inr (by omega)
        ·by_cases h6:k=B6
         ·rw [h6,g6];exact .inr (by omega)
         ·exact .inl (gn k h5 h6)
       ·exact hid ((HC14.o.other M (by have:=(gS HM13.o).1;omega) (fun i e=>by omega)).trans ((HW5.o.block M (gS HM13.o).1).trans HM13.o))) ?_
      rintro Y ⟨G',vl,vs,ss',HLY,HOY,HSY,HGY,HMY,_⟩
      have HGR:Hid (Y.heap[g]? =some (.cells (lineRow l.pub vl vs (sd:Int) hx bf f0 f1 f2 f3 f4 f5 f6 f7 f8 f9 f10 f11 f12 f13 f14) 222 (0,0))):=hid (by have:=HLY.o.row;simp only at this;rw [HSD.o,HBF.o] at this;exact this)
      obtain ⟨h0,h1,h2,h3,h4,h5⟩:=row6 HMY.o
      obtain ⟨k0,l1,l2,l3,k4,k5,kf⟩:=line_cells HGR.o
      have hqs2:sd<q:=by have:=HB.o;omega
      have hq4:q≤4096:=HBK.o.2.2.1
      have hwd:wrap64 ((q:Int) - (sd:Int))=((q - sd:Nat):Int):=by rw [IntWalk.wrap64_in _ ⟨by omega,by omega⟩];omega
      have hwe:IntKind.i64.wrap ((q:Int) - (sd:Int))=((q - sd:Nat):Int):=by rw [IntKind.wrap_i64];omega
      clear hqs2 hq4
      go_upto_region 15 with fail
      go_quiet (fail)
      go_upto_region 16 with fail
      refine wp_over (fun Z=>Hid (Below Y.heap.size Y Z)) (hid below_drewN) ?_
      clear h0 h1 h2 h3 h4 h5 k0 l1 l2 l3 k4 k5 kf hwd hwe
      rintro Z HYZ
      have HS16:Hid (∀W:World,W.heap[M]? =Y.heap[M]? →W.cell? ⟨M,0,none⟩=some (.int .i64 x.h.dev)∧W.cell? ⟨M,1,none⟩=some (.int .i64 (q:Int))∧W.cell? ⟨M,2,none⟩=some (.string x.h.sum)∧W.cell? ⟨M,3,none⟩=some (.int .i64 x.h.idx)∧W.cell? ⟨M,4,none⟩=some (.slice x.a1 x.h.ps.length x.c1)∧W.cell? ⟨M,5,none⟩=some (.slice x.a2 x.h.qs.length x.c2)):=hid (fun W hW=>row6 (hW.trans HMY.o))
      have HYM:Hid (M<Y.heap.size):=hid (gS HMY.o).1
      have HGN2:Hid (g<M):=hid (by rw [← HM.o];exact (gS HRW.o).1)
      refine Kit.wp_region_gplan (fun W=>W.cell? ⟨M,0,none⟩=some (.int .i64 x.h.dev)∧W.cell? ⟨M,1,none⟩=some (.int .i64 (q:Int))∧W.cell? ⟨M,2,none⟩=some (.string x.h.sum)∧W.cell? ⟨M,3,none⟩=some (.int .i64 x.h.idx)∧W.cell? ⟨M,4,none⟩=some (.slice x.a1 x.h.ps.length x.c1)∧W.cell? ⟨M,5,none⟩=some (.slice x.a2 x.h.qs.length x.c2)) [(true,0),(true,1),(true,2),(true,3),(true,4),(false,5),(true,6),(true,7),(false,8),(true,9),(true,10),(false,11)] (by kernel_rfl) (by kernel_rfl) (by kernel_rfl) (by kernel_rfl) (HS16.o Z.drew (HYZ.o.block M HYM.o)) ?_
      obtain ⟨h0,h1,h2,h3,h4,h5⟩:=HS16.o Z.drew (HYZ.o.block M HYM.o)
      iterate 5 (refine Kit.ghd (h:= ?_))
      refine Kit.gplan_op (by rfl) (by rfl) fun K' hK=> ?_
      go_simp
      clear h0 h1 h2 h3 h4 h5
      have HZD:Hid (Below Y.heap.size Y Z.drew):=hid HYZ.o.drew
      have HHX:Hid (StrsAt Z.drew x.a1 x.h.ps∧StrsAt Z.drew x.a2 x.h.qs):=hid (by
       obtain ⟨v1,v2,_⟩:=HXO.o.step HSY.o (by have:=HD.o;omega)
       exact ⟨v1.later HZD.o,v2.later HZD.o⟩)
      go_at_call 147
      with_reducible refine (cloneHead_any x.h.dev (q:Int) x.h.sum x.h.idx x.a1 x.h.ps.length x.c1 x.a2 x.h.qs.length x.c2 x.h.ps x.h.qs rfl rfl HSX.o.1 HSX.o.2 Z.drew HHX.o.1 HHX.o.2).mono ?_
      rintro e w6 ⟨p3,cp3,p4,cp4,rfl,_,_,hp6,hq6,hbp3,hbp4,h6⟩
      have HP6:=hid hp6
      have HQ6:=hid hq6
      have HBP3:Hid (∀ad,p3=some ad→Y.heap.size≤ad.block):=hid (fun ad e=>Nat.le_trans HZD.o.size (hbp3 ad e))
      have HBP4:Hid (∀ad,p4=some ad→Y.heap.size≤ad.block):=hid (fun ad e=>Nat.le_trans HZD.o.size (hbp4 ad e))
      have HW6:Hid (Below Y.heap.size Y w6):=hid (HZD.o.trans (h6.mono HZD.o.size))
      clear hp6 hq6 hbp3 hbp4 h6
      refine hK _ _ (HS16.o w6 (HW6.o.block M HYM.o)) ?_
      clear hK K'
      have HG6:Hid (w6.heap[g]? =some (.cells (lineRow l.pub vl vs (sd:Int) hx bf f0 f1 f2 f3 f4 f5 f6 f7 f8 f9 f10 f11 f12 f13 f14) 222 (0,0))):=hid ((HW6.o.block g (gS HGR.o).1).trans HGR.o)
      obtain ⟨k0,l1,l2,l3,⟨g4,g5,g6,g7,g8,g9⟩,k5,kf⟩:=line_cells HG6.o
      iterate 2 (refine Kit.ghd (h:= ?_))
      refine Kit.gplan_op (by rfl) (by rfl) fun K' hK=> ?_
      go_simp
      refine hK _ _ (HS16.o _ ((Below.heap_setCell _ _ _ _ (by have:=HGN2.o;show M≠g;omega)).trans (HW6.o.block M HYM.o))) ?_
      clear hK K'
      iterate 2 (refine Kit.ghd (h:= ?_))
      refine Kit.gplan_op (by rfl) (by rfl) fun K' hK=> ?_
      go_simp
      obtain ⟨xn,hxn⟩: ∃xn:HV,xn=⟨x.h,p3,cp3,p4,cp4⟩:=⟨_,rfl⟩
      have HGF:Hid ((((((((w6.setCell ⟨g,3,none⟩ (.int .i64 (q:Int))).setCell ⟨g,4,none⟩ (.int .i64 x.h.dev)).setCell ⟨g,5,none⟩ (.int .i64 (q:Int))).setCell ⟨g,6,none⟩ (.string x.h.sum)).setCell ⟨g,7,none⟩ (.int .i64 x.h.idx)).setCell ⟨g,8,none⟩ (.slice p3 x.h.ps.length cp3)).setCell ⟨g,9,none⟩ (.slice p4 x.h.qs.length cp4)).heap[g]? =some (.cells (lineRow l.pub vl vs (q:Int) xn bf f0 f1 f2 f3 f4 f5 f6 f7 f8 f9 f10 f11 f12 f13 f14) 222 (0,0))):=hid (by
       have e:=line_put7 (q:Int) xn HG6.o
       rw [hxn] at e ⊢
       simp only at e
       rw [HQ.o] at e
       exact e)
      have HCF:Hid (Chg (fun k _=>k=g) w6 (((((((w6.setCell ⟨g,3,none⟩ (.int .i64 (q:Int))).setCell ⟨g,4,none⟩ (.int .i64 x.h.dev)).setCell ⟨g,5,none⟩ (.int .i64 (q:Int))).setCell ⟨g,6,none⟩ (.string x.h.sum)).setCell ⟨g,7,none⟩ (.int .i64 x.h.idx)).setCell ⟨g,8,none⟩ (.slice p3 x.h.ps.length cp3)).setCell ⟨g,9,none⟩ (.slice p4 x.h.qs.length cp4))):=hid ((((((((Chg.refl (fun k _=>k=g) w6).setCell (b:=g) (o:=3) _ rfl).setCell (b:=g) (o:=4) _ rfl).setCell (b:=g) (o:=5) _ rfl).setCell (b:=g) (o:=6) _ rfl).setCell (b:=g) (o:=7) _ rfl).setCell (b:=g) (o:=8) _ rfl).setCell (b:=g) (o:=9) _ rfl)
      have HHF:Hid ((((((((w6.setCell ⟨g,3,none⟩ (.int .i64 (q:Int))).setCell ⟨g,4,none⟩ (.int .i64 x.h.dev)).setCell ⟨g,5,none⟩ (.int .i64 (q:Int))).setCell ⟨g,6,none⟩ (.string x.h.sum)).setCell ⟨g,7,none⟩ (.int .i64 x.h.idx)).setCell ⟨g,8,none⟩ (.slice p3 x.h.ps.length cp3)).setCell ⟨g,9,none⟩ (.slice p4 x.h.qs.length cp4)).heap[M]? =Y.heap[M]?):=hid ((HCF.o.other M (by have:=HW6.o.size;have:=HYM.o;omega) (fun i e=>by have:=HGN2.o;omega)).trans (HW6.o.block M HYM.o))
      refine hK _ _ (HS16.o _ HHF.o) ?_
      clear hK K'
      refine Kit.gdn (h:=?_)
      obtain ⟨VF,hVF⟩:=ex_eq (((((((w6.setCell ⟨g,3,none⟩ (.int .i64 (q:Int))).setCell ⟨g,4,none⟩ (.int .i64 x.h.dev)).setCell ⟨g,5,none⟩ (.int .i64 (q:Int))).setCell ⟨g,6,none⟩ (.string x.h.sum)).setCell ⟨g,7,none⟩ (.int .i64 x.h.idx)).setCell ⟨g,8,none⟩ (.slice p3 x.h.ps.length cp3)).setCell ⟨g,9,none⟩ (.slice p4 x.h.qs.length cp4))
      rw [hVF] at HGF HCF ⊢
      clear hVF k0 l1 l2 l3 g4 g5 g6 g7 g8 g9 k5 kf
      go_wp2_with fail
      go_ret
      refine ⟨_,rfl,?_⟩
      rw [show mergeL l gv x.h=({ l with log:=if b<q then l.log.take b++ys.map EV.e else l.log,sealed':=q,head:=x.h },q - sd) by
       unfold mergeL
       rw [HFS.o];simp only;rw [show x.h.seq.toNat=q by rw [HQ.o];rfl,HSD.o]
       rw [if_neg HA.o,if_neg HB.o]]
      have hcy:Chg (fun k _=>k=g) Y VF:=(Chg.of_below HW6.o).trans HCF.o
      have hd:=HD.o
      have htg:G' g=s+1+d:=HLY.o.tag
      have hst:Step G' G' (fun t=>t=s+1+d) Y VF:=⟨hcy.mono fun k i _ e=>by rw [e];exact htg,fun _ _=>rfl⟩
      have hyl:=HLY.o
      obtain ⟨xsy,y1,y2,y3,y4⟩:=hyl.log
      have hgy:g<Y.heap.size:=(gS HGR.o).1
      refine ⟨G',rfl,⟨vl,vs,ss',xn,f0,f1,f2,f3,f4,f5,f6,f7,f8,f9,f10,f11,f12,f13,f14,⟨?_,htg,⟨xsy,y1,?_,y3,fun y hy=>(y4 y hy).step hst (by omega)⟩,?_,hyl.stag,hyl.sumE,by rw [hxn],?_,hyl.fork.step hst (by omega)⟩⟩,HOY.o.later hcy.size,HSY.o.trans hst,HGY.o⟩
      ·show VF.heap[g]? =some (.cells (lineRow l.pub vl vs (q:Int) xn l.fork.isSome f0 f1 f2 f3 f4 f5 f6 f7 f8 f9 f10 f11 f12 f13 f14) 222 (0,0))
       rw [HBF.o]
       exact HGF.o
      ·exact ownsRow_keepM y2 hcy (fun b hb i e=>not_row_of y2 HGR.o (by decide) (by rw [← e];exact hb.symm))
      ·exact ownsRow_keepM hyl.sums hcy (fun b hb i e=>not_row_of hyl.sums HGR.o (by decide) (by rw [← e];exact hb.symm))
      ·rw [hxn]
       have hgm:=HGN2.o
       have hym:=HYM.o
       exact ⟨HP6.o.keep HCF.o (fun ad e _ i hi=>by have:=HBP3.o ad e;omega),HQ6.o.keep HCF.o (fun ad e _ i hi=>by have:=HBP4.o ad e;omega),fun _ ad e=>HOY.o.hi _ (HBP3.o ad e),fun _ ad e=>HOY.o.hi _ (HBP4.o ad e)⟩
     ·have HBQ:Hid (¬b<q):=hid hbq
      have hbi: ¬(b:Int)<(q:Int):=by omega
      clear hbq
      go_upto_region 15 with fail
      clear hbi
      refine wp_over (fun Y=> ∃(G':Nat→Nat) (vl vs:Value) (ss':List ByteArray),Hid (LineR Y G' (s+1+d) g { l with log:=if b<q then l.log.take b++ys.map EV.e else l.log } vl vs ss' hx f0 f1 f2 f3 f4 f5 f6 f7 f8 f9 f10 f11 f12 f13 f14)∧Hid (Own Y G' N0)∧Hid (Step G G' (fun t=>t=s+1+d) w Y)∧Hid (∀k,G' k=G k∨(s≤G' k∧G' k≤s+50))∧Hid (Y.heap[M]? =some (.cells #[.int .i64 x.h.dev,.int .i64 (q:Int),.string x.h.sum,.int .i64 x.h.idx,.slice x.a1 x.h.ps.length x.c1,.slice x.a2 x.h.qs.length x.c2] 94 (0,0)))∧True) (by
       have hst:=Step.of_below (G:=G) (T:=fun t=>t=s+1+d) (by rw [HM.o];exact HBU.o:Below w.heap.size w U)
       refine ⟨G,.slice al l.log.length cl,.slice sl l.log.length cs,ss,?_,HO.o.later hst.chg.size,hst,fun k=> .inl rfl,HHU,trivial⟩
       rw [if_neg HBQ.o]
       exact HLN.o.later (by rw [HM.o];exact HBU.o)) ?_
      clear h0 h1 h2 h3 h4 h5 t0 t1 t2 k0 l1 l2 l3 k4 k5 kf
      rintro Y ⟨G',vl,vs,ss',HLY,HOY,HSY,HGY,HMY,_⟩
      have HGR:Hid (Y.heap[g]? =some (.cells (lineRow l.pub vl vs (sd:Int) hx bf f0 f1 f2 f3 f4 f5 f6 f7 f8 f9 f10 f11 f12 f13 f14) 222 (0,0))):=hid (by have:=HLY.o.row;simp only at this;rw [HSD.o,HBF.o] at this;exact this)
      obtain ⟨h0,h1,h2,h3,h4,h5⟩:=row6 HMY.o
      obtain ⟨k0,l1,l2,l3,k4,k5,kf⟩:=line_cells HGR.o
      have hqs2:sd<q:=by have:=HB.o;omega
      have hq4:q≤4096:=HBK.o.2.2.1
      have hwd:wrap64 ((q:Int) - (sd:Int))=((q - sd:Nat):Int):=by rw [IntWalk.wrap64_in _ ⟨by omega,by omega⟩];omega
      have hwe:IntKind.i64.wrap ((q:Int) - (sd:Int))=((q - sd:Nat):Int):=by rw [IntKind.wrap_i64];omega
      clear hqs2 hq4
      go_upto_region 15 with fail
      go_quiet (fail)
      go_upto_region 16 with fail
      refine wp_over (fun Z=>Hid (Below Y.heap.size Y Z)) (hid below_drewN) ?_
      clear h0 h1 h2 h3 h4 h5 k0 l1 l2 l3 k4 k5 kf hwd hwe
      rintro Z HYZ
      have HS16:Hid (∀W:World,W.heap[M]? =Y.heap[M]? →W.cell? ⟨M,0,none⟩=some (.int .i64 x.h.dev)∧W.cell? ⟨M,1,none⟩=some (.int .i64 (q:Int))∧W.cell? ⟨M,2,none⟩=some (.string x.h.sum)∧W.cell? ⟨M,3,none⟩=some (.int .i64 x.h.idx)∧W.cell? ⟨M,4,none⟩=some (.slice x.a1 x.h.ps.length x.c1)∧W.cell? ⟨M,5,none⟩=some (.slice x.a2 x.h.qs.length x.c2)):=hid (fun W hW=>row6 (hW.trans HMY.o))
      have HYM:Hid (M<Y.heap.size):=hid (gS HMY.o).1
      have HGN2:Hid (g<M):=hid (by rw [← HM.o];exact (gS HRW.o).1)
      refine Kit.wp_region_gplan (fun W=>W.cell? ⟨M,0,none⟩=some (.int .i64 x.h.dev)∧W.cell? ⟨M,1,none⟩=some (.int .i64 (q:Int))∧W.cell? ⟨M,2,none⟩=some (.string x.h.sum)∧W.cell? ⟨M,3,none⟩=some (.int .i64 x.h.idx)∧W.cell? ⟨M,4,none⟩=some (.slice x.a1 x.h.ps.length x.c1)∧W.cell? ⟨M,5,none⟩=some (.slice x.a2 x.h.qs.length x.c2)) [(true,0),(true,1),(true,2),(true,3),(true,4),(false,5),(true,6),(true,7),(false,8),(true,9),(true,10),(false,11)] (by kernel_rfl) (by kernel_rfl) (by kernel_rfl) (by kernel_rfl) (HS16.o Z.drew (HYZ.o.block M HYM.o)) ?_
      obtain ⟨h0,h1,h2,h3,h4,h5⟩:=HS16.o Z.drew (HYZ.o.block M HYM.o)
      iterate 5 (refine Kit.ghd (h:= ?_))
      refine Kit.gplan_op (by rfl) (by rfl) fun K' hK=> ?_
      go_simp
      clear h0 h1 h2 h3 h4 h5
      have HZD:Hid (Below Y.heap.size Y Z.drew):=hid HYZ.o.drew
      have HHX:Hid (StrsAt Z.drew x.a1 x.h.ps∧StrsAt Z.drew x.a2 x.h.qs):=hid (by
       obtain ⟨v1,v2,_⟩:=HXO.o.step HSY.o (by have:=HD.o;omega)
       exact ⟨v1.later HZD.o,v2.later HZD.o⟩)
      go_at_call 147
      with_reducible refine (cloneHead_any x.h.dev (q:Int) x.h.sum x.h.idx x.a1 x.h.ps.length x.c1 x.a2 x.h.qs.length x.c2 x.h.ps x.h.qs rfl rfl HSX.o.1 HSX.o.2 Z.drew HHX.o.1 HHX.o.2).mono ?_
      rintro e w6 ⟨p3,cp3,p4,cp4,rfl,_,_,hp6,hq6,hbp3,hbp4,h6⟩
      have HP6:=hid hp6
      have HQ6:=hid hq6
      have HBP3:Hid (∀ad,p3=some ad→Y.heap.size≤ad.block):=hid (fun ad e=>Nat.le_trans HZD.o.size (hbp3 ad e))
      have HBP4:Hid (∀ad,p4=some ad→Y.heap.size≤ad.block):=hid (fun ad e=>Nat.le_trans HZD.o.size (hbp4 ad e))
      have HW6:Hid (Below Y.heap.size Y w6):=hid (HZD.o.trans (h6.mono HZD.o.size))
      clear hp6 hq6 hbp3 hbp4 h6
      refine hK _ _ (HS16.o w6 (HW6.o.block M HYM.o)) ?_
      clear hK K'
      have HG6:Hid (w6.heap[g]? =some (.cells (lineRow l.pub vl vs (sd:Int) hx bf f0 f1 f2 f3 f4 f5 f6 f7 f8 f9 f10 f11 f12 f13 f14) 222 (0,0))):=hid ((HW6.o.block g (gS HGR.o).1).trans HGR.o)
      obtain ⟨k0,l1,l2,l3,⟨g4,g5,g6,g7,g8,g9⟩,k5,kf⟩:=line_cells HG6.o
      iterate 2 (refine Kit.ghd (h:= ?_))
      refine Kit.gplan_op (by rfl) (by rfl) fun K' hK=> ?_
      go_simp
      refine hK _ _ (HS16.o _ ((Below.heap_setCell _ _ _ _ (by have:=HGN2.o;show M≠g;omega)).trans (HW6.o.block M HYM.o))) ?_
      clear hK K'
      iterate 2 (refine Kit.ghd (h:= ?_))
      refine Kit.gplan_op (by rfl) (by rfl) fun K' hK=> ?_
      go_simp
      obtain ⟨xn,hxn⟩: ∃xn:HV,xn=⟨x.h,p3,cp3,p4,cp4⟩:=⟨_,rfl⟩
      have HGF:Hid ((((((((w6.setCell ⟨g,3,none⟩ (.int .i64 (q:Int))).setCell ⟨g,4,none⟩ (.int .i64 x.h.dev)).setCell ⟨g,5,none⟩ (.int .i64 (q:Int))).setCell ⟨g,6,none⟩ (.string x.h.sum)).setCell ⟨g,7,none⟩ (.int .i64 x.h.idx)).setCell ⟨g,8,none⟩ (.slice p3 x.h.ps.length cp3)).setCell ⟨g,9,none⟩ (.slice p4 x.h.qs.length cp4)).heap[g]? =some (.cells (lineRow l.pub vl vs (q:Int) xn bf f0 f1 f2 f3 f4 f5 f6 f7 f8 f9 f10 f11 f12 f13 f14) 222 (0,0))):=hid (by
       have e:=line_put7 (q:Int) xn HG6.o
       rw [hxn] at e ⊢
       simp only at e
       rw [HQ.o] at e
       exact e)
      have HCF:Hid (Chg (fun k _=>k=g) w6 (((((((w6.setCell ⟨g,3,none⟩ (.int .i64 (q:Int))).setCell ⟨g,4,none⟩ (.int .i64 x.h.dev)).setCell ⟨g,5,none⟩ (.int .i64 (q:Int))).setCell ⟨g,6,none⟩ (.string x.h.sum)).setCell ⟨g,7,none⟩ (.int .i64 x.h.idx)).setCell ⟨g,8,none⟩ (.slice p3 x.h.ps.length cp3)).setCell ⟨g,9,none⟩ (.slice p4 x.h.qs.length cp4))):=hid ((((((((Chg.refl (fun k _=>k=g) w6).setCell (b:=g) (o:=3) _ rfl).setCell (b:=g) (o:=4) _ rfl).setCell (b:=g) (o:=5) _ rfl).setCell (b:=g) (o:=6) _ rfl).setCell (b:=g) (o:=7) _ rfl).setCell (b:=g) (o:=8) _ rfl).setCell (b:=g) (o:=9) _ rfl)
      have HHF:Hid ((((((((w6.setCell ⟨g,3,none⟩ (.int .i64 (q:Int))).setCell ⟨g,4,none⟩ (.int .i64 x.h.dev)).setCell ⟨g,5,none⟩ (.int .i64 (q:Int))).setCell ⟨g,6,none⟩ (.string x.h.sum)).setCell ⟨g,7,none⟩ (.int .i64 x.h.idx)).setCell ⟨g,8,none⟩ (.slice p3 x.h.ps.length cp3)).setCell ⟨g,9,none⟩ (.slice p4 x.h.qs.length cp4)).heap[M]? =Y.heap[M]?):=hid ((HCF.o.other M (by have:=HW6.o.size;have:=HYM.o;omega) (fun i e=>by have:=HGN2.o;omega)).trans (HW6.o.block M HYM.o))
      refine hK _ _ (HS16.o _ HHF.o) ?_
      clear hK K'
      refine Kit.gdn (h:=?_)
      obtain ⟨VF,hVF⟩:=ex_eq (((((((w6.setCell ⟨g,3,none⟩ (.int .i64 (q:Int))).setCell ⟨g,4,none⟩ (.int .i64 x.h.dev)).setCell ⟨g,5,none⟩ (.int .i64 (q:Int))).setCell ⟨g,6,none⟩ (.string x.h.sum)).setCell ⟨g,7,none⟩ (.int .i64 x.h.idx)).setCell ⟨g,8,none⟩ (.slice p3 x.h.ps.length cp3)).setCell ⟨g,9,none⟩ (.slice p4 x.h.qs.length cp4))
      rw [hVF] at HGF HCF ⊢
      clear hVF k0 l1 l2 l3 g4 g5 g6 g7 g8 g9 k5 kf
      go_wp2_with fail
      go_ret
      refine ⟨_,rfl,?_⟩
      rw [show mergeL l gv x.h=({ l with log:=if b<q then l.log.take b++ys.map EV.e else l.log,sealed':=q,head:=x.h },q - sd) by
       unfold mergeL
       rw [HFS.o];simp only;rw [show x.h.seq.toNat=q by rw [HQ.o];rfl,HSD.o]
       rw [if_neg HA.o,if_neg HB.o]]
      have hcy:Chg (fun k _=>k=g) Y VF:=(Chg.of_below HW6.o).trans HCF.o
      have hd:=HD.o
      have htg:G' g=s+1+d:=HLY.o.tag
      have hst:Step G' G' (fun t=>t=s+1+d) Y VF:=⟨hcy.mono fun k i _ e=>by rw [e];exact htg,fun _ _=>rfl⟩
      have hyl:=HLY.o
      obtain ⟨xsy,y1,y2,y3,y4⟩:=hyl.log
      have hgy:g<Y.heap.size:=(gS HGR.o).1
      refine ⟨G',rfl,⟨vl,vs,ss',xn,f0,f1,f2,f3,f4,f5,f6,f7,f8,f9,f10,f11,f12,f13,f14,⟨?_,htg,⟨xsy,y1,?_,y3,fun y hy=>(y4 y hy).step hst (by omega)⟩,?_,hyl.stag,hyl.sumE,by rw [hxn],?_,hyl.fork.step hst (by omega)⟩⟩,HOY.o.later hcy.size,HSY.o.trans hst,HGY.o⟩
      ·show VF.heap[g]? =some (.cells (lineRow l.pub vl vs (q:Int) xn l.fork.isSome f0 f1 f2 f3 f4 f5 f6 f7 f8 f9 f10 f11 f12 f13 f14) 222 (0,0))
       rw [HBF.o]
       exact HGF.o
      ·exact ownsRow_keepM y2 hcy (fun b hb i e=>not_row_of y2 HGR.o (by decide) (by rw [← e];exact hb.symm))
      ·exact ownsRow_keepM hyl.sums hcy (fun b hb i e=>not_row_of hyl.sums HGR.o (by decide) (by rw [← e];exact hb.symm))
      ·rw [hxn]
       have hgm:=HGN2.o
       have hym:=HYM.o
       exact ⟨HP6.o.keep HCF.o (fun ad e _ i hi=>by have:=HBP3.o ad e;omega),HQ6.o.keep HCF.o (fun ad e _ i hi=>by have:=HBP4.o ad e;omega),fun _ ad e=>HOY.o.hi _ (HBP3.o ad e),fun _ ad e=>HOY.o.hi _ (HBP4.o ad e)⟩
theorem headIn_len {d q:Nat} {s:List Nat} (hd:d≤11) (hq:q≤1099511627776) (hs:s.length=32):(headIn d q s).length≤100:=by
 have h1:=num_len40 (n:=d) (by omega)
 have h2:=num_len40 hq
 have h3:=num_len40 (n:=4) (by decide)
 have h4:headB.length=4:=rfl
 unfold headIn
 simp only [List.length_append]
 omega
theorem digest_ok (d q:Nat) (sm:ByteArray) (hz:sm.size=32) (hd:d≤11) (hq:q≤1099511627776) (ix:Int) (a1:Option Addr) (n1 c1:Nat) (a2:Option Addr) (n2 c2:Nat) (T:List Nat) (hT:headDg d q (nb sm)=T) (w:World) (hL:Laid w):
    Calls Tryz.prog 158 #[.agg #[.int .i64 (d:Int),.int .i64 (q:Int),.string sm,.int .i64 ix,.slice a1 n1 c1,.slice a2 n2 c2]] w fun e w'=> ∃u:ByteArray,e= .returned (.string u)∧nb u=T∧u.size=32∧Below w.heap.size w w':=by
 have HL:=hid hL
 have HZ:=hid hz
 have HHL:=hid (headIn_len hd hq (s:=nb sm) (by rw [nb_length];exact hz))
 have HTE:Hid (Sha.sum (headIn d q (nb sm))=T):=hid hT
 have hwd:IntKind.u64.wrap (d:Int)=(d:Int):=by rw [IntKind.wrap_u64];omega
 have hwq:IntKind.u64.wrap (q:Int)=(q:Int):=by rw [IntKind.wrap_u64];omega
 have HDQ:Hid (d≤11∧q≤1099511627776):=hid ⟨hd,hq⟩
 clear hL hz hT hd hq
 go_enter Tryz.func158,Tryz.ntmps158
 go_upto_region 1 with fail
 refine wp_over (fun W=>Hid (W.heap[w.heap.size]? =some (.cells #[.int .i64 (d:Int),.int .i64 (q:Int),.string sm,.int .i64 ix,.slice a1 n1 c1,.slice a2 n2 c2] 94 (0,0)))∧Hid (Below w.heap.size w W)) ⟨heap_alloc_new _ _,(Below.refl _ _).alloc (Nat.le_refl _) _⟩ ?_
 rintro W ⟨HG,HB⟩
 obtain ⟨N,hN⟩:=ex_eq w.heap.size
 rw [hN] at HG HB ⊢
 have HN:=hid hN
 clear hN
 have HC:Hid (∀V,Below (N+1) W V→V.cell? ⟨N,0,none⟩=some (.int .i64 (d:Int))∧V.cell? ⟨N,1,none⟩=some (.int .i64 (q:Int))∧V.cell? ⟨N,2,none⟩=some (.string sm)):=hid (fun V h=>by
  obtain ⟨k0,k1,k2,_⟩:=row6 ((h.block N (Nat.lt_succ_self _)).trans HG.o)
  exact ⟨k0,k1,k2⟩)
 have HWS:Hid (N+1≤W.heap.size):=hid (gS HG.o).1
 have HST:Hid (∀V V',Below (N+1) W V→Below V.heap.size V V'→Below (N+1) W V'):=hid (fun V V' h h'=>h.trans (h'.mono (Nat.le_trans HWS.o h.size)))
 have HEND:Hid (∀V,Below (N+1) W V→Below w.heap.size w V):=hid (fun V h=>by rw [HN.o];exact HB.o.trans (h.mono (Nat.le_succ N)))
 go_upto_region 2 with (first
  | (go_at_call 103
     (refine (newWriter_ok _).mono ?_)
     rintro e w3 ⟨g,rfl,hg3,hle3,h3⟩
     have HG3:=hid hg3
     have H3:=hid (HST.o _ _ (Below.refl _ _) h3)
     have HGN:Hid (N+1≤g):=hid (Nat.le_trans HWS.o hle3)
     clear hg3 h3 hle3))
 have HW3:Hid (WrAt w3 g w3.heap.size []):=hid (WrAt.start HG3.o (gS HG3.o).1 (Nat.le_refl _))
 have HBN:Hid (N+1≤w3.heap.size):=hid (Nat.le_trans HWS.o H3.o.size)
 obtain ⟨Bz,hBz⟩:=ex_eq w3.heap.size
 rw [hBz] at HW3 HBN
 clear hBz
 have HM:Hid (∀V V',Below (N+1) W V→Chg (WrM g Bz) V V'→Below (N+1) W V'):=hid (fun V V' h h'=>h.trans (h'.below (Nat.le_trans HWS.o h.size) (fun q i hq hm=>by
  have h1:=HGN.o
  have h2:=HBN.o
  rcases hm with hm | hm<;> omega)))
 go_upto_region 3 with (first
  | (go_at_call 186
     (refine (wrText_ok g Bz [] { data:= #[104,101,97,100] } 4 rfl (by decide) (by decide) w3 HW3.o).mono ?_)
     rintro e w4 ⟨rfl,hw4,h4⟩
     have HW4:=hid (hw4.len (cs:=num 4++headB) rfl)
     have H4:=hid (HM.o _ _ H3.o h4)
     clear hw4 h4))
 obtain ⟨c0,c1,c2⟩:=HC.o _ H4.o
 have HL4:Hid ((num 4++headB).length≤100000):=hid (by have:=HHL.o;unfold headIn at this;simp only [List.length_append] at this ⊢;omega)
 go_upto_region 4 with (first
  | (go_at_call 105
     (refine (wrUint_ok g Bz _ d (by have:=HDQ.o;omega) HL4.o w4 HW4.o).mono ?_)
     rintro e w5 ⟨rfl,hw5,h5⟩
     have HW5:=hid hw5
     have H5:=hid (HM.o _ _ H4.o h5)
     clear hw5 h5 c0 c1 c2))
 obtain ⟨c0,c1,c2⟩:=HC.o _ H5.o
 have HL5:Hid ((num 4++headB++num d).length≤100000):=hid (by have:=HHL.o;unfold headIn at this;simp only [List.length_append] at this ⊢;omega)
 have HL6:Hid ((num 4++headB++num d++num q).length≤100000):=hid (by have:=HHL.o;unfold headIn at this;simp only [List.length_append] at this ⊢;omega)
 go_upto_region 5 with (first
  | (go_at_call 105
     (refine (wrUint_ok g Bz _ q (by have:=HDQ.o;omega) HL5.o w5 HW5.o).mono ?_)
     rintro e w6 ⟨rfl,hw6,h6⟩
     have HW6:=hid hw6
     have H6:=hid (HM.o _ _ H5.o h6)
     clear hw6 h6 c0 c1 c2))
 obtain ⟨c0,c1,c2⟩:=HC.o _ H6.o
 go_upto_region 6 with (first
  | (go_at_call 107
     (refine (wrSum_ok g Bz _ sm HZ.o HL6.o w6 HW6.o).mono ?_)
     rintro e w7 ⟨rfl,hw7,h7⟩
     have HW7:Hid (WrAt w7 g Bz (headIn d q (nb sm))):=hid hw7
     have H7:=hid (HM.o _ _ H6.o h7)
     clear hw7 h7 c0 c1 c2))
 obtain ⟨T0,hT0⟩:=ex_eq (headIn d q (nb sm))
 rw [hT0] at HW7 HHL HTE
 clear hT0
 go_wp2_with (first
  | (go_at_call 108
     (refine (wrDone_ok g Bz T0 (by have:=HHL.o;omega) w7 HW7.o).mono ?_)
     rintro e w9 ⟨ad,L,cap,rfl,hL9,hle9,hB9,hn9,hb9,h9⟩
     have HL9:=hid hL9
     have HLE9:=hid hle9
     have HB9:=hid hB9
     have HN9:=hid hn9
     have H9:=hid (HST.o _ _ H7.o h9)
     clear hL9 hle9 hB9 hn9 hb9 h9)
  | (go_at_call 157
     (refine (sum_l ad cap T0 L HL9.o (by rw [HL9.o];exact HLE9.o) HN9.o (by have:=HHL.o;omega) w9 HB9.o (fun x e h=>HB9.o.blk x e (by intro h0;rw [h0] at h;simp at h)) (HL.o.later (HEND.o _ H9.o) (Nat.le_refl _))).mono ?_)
     rintro e w10 ⟨u3,rfl,hu3,h10⟩
     have HU3:=hid hu3
     have H10:=hid (HST.o _ _ H9.o h10)
     clear hu3 h10))
 go_ret
 exact ⟨u3,rfl,by rw [HU3.o,HTE.o],by rw [← nb_length,HU3.o];exact Sha.sum_length _,HEND.o _ H10.o⟩
theorem verifyH_dev (pk:ByteArray) (B H:Int) (dv sq:Int) (sm:ByteArray) (ix:Int) (a1:Option Addr) (n1 c1:Nat) (a2:Option Addr) (n2 c2:Nat) (ps qs:List ByteArray) (hb: ¬(0≤dv∧dv≤11)) (w:World):
    Calls Tryz.prog 64 #[.string pk,.agg #[.int .i64 B,.int .i64 H],.agg #[.int .i64 dv,.int .i64 sq,.string sm,.int .i64 ix,.slice a1 n1 c1,.slice a2 n2 c2]] w fun e w'=>e= .returned (.bool false)∧Below w.heap.size w w':=by
 have HI:=hid (fun w=>within_any dv 0 11 w)
 rw [show inB dv 0 11=false by unfold inB;rw [← Bool.decide_and];exact decide_eq_false hb] at HI
 clear hb
 go_enter Tryz.func64,Tryz.ntmps64
 go_upto_region 1 with fail
 refine wp_over (fun W=>Hid (W.heap[w.heap.size]? =some (.cells #[.int .i64 B,.int .i64 H] 23 (0,0)))∧Hid (W.heap[w.heap.size+1]? =some (.cells #[.int .i64 dv,.int .i64 sq,.string sm,.int .i64 ix,.slice a1 n1 c1,.slice a2 n2 c2] 94 (0,0)))∧Hid (Below w.heap.size w W)∧Hid (W.heap.size=w.heap.size+2)) ⟨?_,?_,?_,?_⟩ ?_
 ·exact (Below.heap_alloc _ _ _ (by simp)).trans (heap_alloc_new w _)
 ·have h:=heap_alloc_new (w.alloc (.cells #[.int .i64 B,.int .i64 H] 23)) (.cells #[.int .i64 dv,.int .i64 sq,.string sm,.int .i64 ix,.slice a1 n1 c1,.slice a2 n2 c2] 94)
  rwa [World.size_alloc] at h
 ·exact ((Below.refl _ _).alloc (Nat.le_refl _) _).alloc (by simp) _
 ·show _=_
  simp
 rintro W ⟨HGS,HG,HB,HW⟩
 obtain ⟨N,hN⟩:=ex_eq w.heap.size
 rw [hN] at HGS HG HB HW ⊢
 have HN:=hid hN
 clear hN
 have HSC:Hid (∀V,Below (N+2) W V→(V.cell? ⟨N,0,none⟩=some (.int .i64 B)∧V.cell? ⟨N,1,none⟩=some (.int .i64 H)∧V.cell? ⟨N+1,0,none⟩=some (.int .i64 dv)∧V.cell? ⟨N+1,1,none⟩=some (.int .i64 sq)∧V.cell? ⟨N+1,2,none⟩=some (.string sm)∧V.cell? ⟨N+1,3,none⟩=some (.int .i64 ix)∧V.cell? ⟨N+1,4,none⟩=some (.slice a1 n1 c1)∧V.cell? ⟨N+1,5,none⟩=some (.slice a2 n2 c2))):=hid (fun V h=>by
  obtain ⟨k0,k1,k2,k3,k4,k5⟩:=row6 ((h.block (N+1) (by omega)).trans HG.o)
  have hg:=(h.block N (by omega)).trans HGS.o
  exact ⟨cr hg,cr hg,k0,k1,k2,k3,k4,k5⟩)
 have HST:Hid (∀V V',Below (N+2) W V→Below V.heap.size V V'→Below (N+2) W V'):=hid (fun V V' h h'=>h.trans (h'.mono (by have:=h.size;have:=HW.o;omega)))
 have HEND:Hid (∀V,Below (N+2) W V→Below w.heap.size w V):=hid (fun V h=>by rw [HN.o];exact HB.o.trans (h.mono (by omega)))
 have HR0:Hid (Below (N+2) W W):=hid (Below.refl _ _)
 refine Kit.wp_region_hplan (fun V=>V.cell? ⟨N,0,none⟩=some (.int .i64 B)∧V.cell? ⟨N,1,none⟩=some (.int .i64 H)∧V.cell? ⟨N+1,0,none⟩=some (.int .i64 dv)∧V.cell? ⟨N+1,1,none⟩=some (.int .i64 sq)∧V.cell? ⟨N+1,2,none⟩=some (.string sm)∧V.cell? ⟨N+1,3,none⟩=some (.int .i64 ix)∧V.cell? ⟨N+1,4,none⟩=some (.slice a1 n1 c1)∧V.cell? ⟨N+1,5,none⟩=some (.slice a2 n2 c2)) [(true,0),(true,1),(false,2),(true,3),(true,4),(true,5),(false,6),(true,7),(true,8),(true,9),(true,10),(true,11),(true,12),(true,13),(true,14),(true,15),(true,16),(true,17),(true,19),(true,20),(false,18),(false,21),(true,22),(true,23)] (by kernel_rfl) (by kernel_rfl) (by kernel_rfl) (by kernel_rfl) (HSC.o W HR0.o) ?_
 iterate 2 (refine Kit.hhd (h:= ?_))
 refine Kit.hplan_op (by rfl) (by rfl) fun K hK=> ?_
 go_simp
 go_at_call 142
 (refine (HI.o _).mono ?_)
 rintro e wz ⟨rfl,rfl⟩
 refine hK _ _ (HSC.o _ HR0.o.drew) ?_
 clear hK K
 iterate 3 (refine Kit.hhd (h:= ?_))
 refine Kit.hsk (h:=?_)
 iterate 13 (refine Kit.hhd (h:= ?_))
 refine Kit.hsk (h:=?_)
 refine Kit.hsk (h:=?_)
 iterate 2 (refine Kit.hhd (h:= ?_))
 refine Kit.hdn (h:=?_)
 go_wp2_with fail
 go_ret
 exact ⟨rfl,HEND.o _ HR0.o.drew⟩
theorem verifyH_seq (pk:ByteArray) (B H:Int) (dv sq:Int) (sm:ByteArray) (ix:Int) (a1:Option Addr) (n1 c1:Nat) (a2:Option Addr) (n2 c2:Nat) (ps qs:List ByteArray) (hb:(0≤dv∧dv≤11)∧ ¬(1≤sq∧sq≤1099511627776)) (w:World):
    Calls Tryz.prog 64 #[.string pk,.agg #[.int .i64 B,.int .i64 H],.agg #[.int .i64 dv,.int .i64 sq,.string sm,.int .i64 ix,.slice a1 n1 c1,.slice a2 n2 c2]] w fun e w'=>e= .returned (.bool false)∧Below w.heap.size w w':=by
 have HI:=hid (fun w=>within_any dv 0 11 w)
 rw [show inB dv 0 11=true by unfold inB;rw [← Bool.decide_and];exact decide_eq_true hb.1] at HI
 have HI2:=hid (fun w=>within_any sq 1 1099511627776 w)
 rw [show inB sq 1 1099511627776=false by unfold inB;rw [← Bool.decide_and];exact decide_eq_false hb.2] at HI2
 clear hb
 go_enter Tryz.func64,Tryz.ntmps64
 go_upto_region 1 with fail
 refine wp_over (fun W=>Hid (W.heap[w.heap.size]? =some (.cells #[.int .i64 B,.int .i64 H] 23 (0,0)))∧Hid (W.heap[w.heap.size+1]? =some (.cells #[.int .i64 dv,.int .i64 sq,.string sm,.int .i64 ix,.slice a1 n1 c1,.slice a2 n2 c2] 94 (0,0)))∧Hid (Below w.heap.size w W)∧Hid (W.heap.size=w.heap.size+2)) ⟨?_,?_,?_,?_⟩ ?_
 ·exact (Below.heap_alloc _ _ _ (by simp)).trans (heap_alloc_new w _)
 ·have h:=heap_alloc_new (w.alloc (.cells #[.int .i64 B,.int .i64 H] 23)) (.cells #[.int .i64 dv,.int .i64 sq,.string sm,.int .i64 ix,.slice a1 n1 c1,.slice a2 n2 c2] 94)
  rwa [World.size_alloc] at h
 ·exact ((Below.refl _ _).alloc (Nat.le_refl _) _).alloc (by simp) _
 ·show _=_
  simp
 rintro W ⟨HGS,HG,HB,HW⟩
 obtain ⟨N,hN⟩:=ex_eq w.heap.size
 rw [hN] at HGS HG HB HW ⊢
 have HN:=hid hN
 clear hN
 have HSC:Hid (∀V,Below (N+2) W V→(V.cell? ⟨N,0,none⟩=some (.int .i64 B)∧V.cell? ⟨N,1,none⟩=some (.int .i64 H)∧V.cell? ⟨N+1,0,none⟩=some (.int .i64 dv)∧V.cell? ⟨N+1,1,none⟩=some (.int .i64 sq)∧V.cell? ⟨N+1,2,none⟩=some (.string sm)∧V.cell? ⟨N+1,3,none⟩=some (.int .i64 ix)∧V.cell? ⟨N+1,4,none⟩=some (.slice a1 n1 c1)∧V.cell? ⟨N+1,5,none⟩=some (.slice a2 n2 c2))):=hid (fun V h=>by
  obtain ⟨k0,k1,k2,k3,k4,k5⟩:=row6 ((h.block (N+1) (by omega)).trans HG.o)
  have hg:=(h.block N (by omega)).trans HGS.o
  exact ⟨cr hg,cr hg,k0,k1,k2,k3,k4,k5⟩)
 have HST:Hid (∀V V',Below (N+2) W V→Below V.heap.size V V'→Below (N+2) W V'):=hid (fun V V' h h'=>h.trans (h'.mono (by have:=h.size;have:=HW.o;omega)))
 have HEND:Hid (∀V,Below (N+2) W V→Below w.heap.size w V):=hid (fun V h=>by rw [HN.o];exact HB.o.trans (h.mono (by omega)))
 have HR0:Hid (Below (N+2) W W):=hid (Below.refl _ _)
 refine Kit.wp_region_hplan (fun V=>V.cell? ⟨N,0,none⟩=some (.int .i64 B)∧V.cell? ⟨N,1,none⟩=some (.int .i64 H)∧V.cell? ⟨N+1,0,none⟩=some (.int .i64 dv)∧V.cell? ⟨N+1,1,none⟩=some (.int .i64 sq)∧V.cell? ⟨N+1,2,none⟩=some (.string sm)∧V.cell? ⟨N+1,3,none⟩=some (.int .i64 ix)∧V.cell? ⟨N+1,4,none⟩=some (.slice a1 n1 c1)∧V.cell? ⟨N+1,5,none⟩=some (.slice a2 n2 c2)) [(true,0),(true,1),(false,2),(true,3),(true,4),(true,5),(false,6),(true,7),(true,8),(true,9),(true,10),(true,11),(true,12),(true,13),(true,14),(true,15),(true,16),(true,17),(true,19),(true,20),(false,18),(false,21),(true,22),(true,23)] (by kernel_rfl) (by kernel_rfl) (by kernel_rfl) (by kernel_rfl) (HSC.o W HR0.o) ?_
 iterate 2 (refine Kit.hhd (h:= ?_))
 refine Kit.hplan_op (by rfl) (by rfl) fun K hK=> ?_
 go_simp
 go_at_call 142
 (refine (HI.o _).mono ?_)
 rintro e wz ⟨rfl,rfl⟩
 refine hK _ _ (HSC.o _ HR0.o.drew) ?_
 clear hK K
 iterate 3 (refine Kit.hhd (h:= ?_))
 refine Kit.hplan_op (by rfl) (by rfl) fun K hK=> ?_
 go_simp
 go_at_call 142
 (refine (HI2.o _).mono ?_)
 rintro e wz ⟨rfl,rfl⟩
 refine hK _ _ (HSC.o _ HR0.o.drew) ?_
 clear hK K
 iterate 13 (refine Kit.hhd (h:= ?_))
 refine Kit.hsk (h:=?_)
 refine Kit.hsk (h:=?_)
 iterate 2 (refine Kit.hhd (h:= ?_))
 refine Kit.hdn (h:=?_)
 go_wp2_with fail
 go_ret
 exact ⟨rfl,HEND.o _ HR0.o.drew⟩
theorem verifyH_sum (pk:ByteArray) (B H:Int) (dv sq:Int) (sm:ByteArray) (ix:Int) (a1:Option Addr) (n1 c1:Nat) (a2:Option Addr) (n2 c2:Nat) (ps qs:List ByteArray) (hb:(0≤dv∧dv≤11)∧(1≤sq∧sq≤1099511627776)∧ ¬sm.size=32) (w:World):
    Calls Tryz.prog 64 #[.string pk,.agg #[.int .i64 B,.int .i64 H],.agg #[.int .i64 dv,.int .i64 sq,.string sm,.int .i64 ix,.slice a1 n1 c1,.slice a2 n2 c2]] w fun e w'=>e= .returned (.bool false)∧Below w.heap.size w w':=by
 have HI:=hid (fun w=>within_any dv 0 11 w)
 rw [show inB dv 0 11=true by unfold inB;rw [← Bool.decide_and];exact decide_eq_true hb.1] at HI
 have HI2:=hid (fun w=>within_any sq 1 1099511627776 w)
 rw [show inB sq 1 1099511627776=true by unfold inB;rw [← Bool.decide_and];exact decide_eq_true hb.2.1] at HI2
 have hsz:(((sm.size:Nat):Int)==32)=false:=by rw [beq_eq_false_iff_ne];have:=hb.2.2;omega
 clear hb
 go_enter Tryz.func64,Tryz.ntmps64
 go_upto_region 1 with fail
 refine wp_over (fun W=>Hid (W.heap[w.heap.size]? =some (.cells #[.int .i64 B,.int .i64 H] 23 (0,0)))∧Hid (W.heap[w.heap.size+1]? =some (.cells #[.int .i64 dv,.int .i64 sq,.string sm,.int .i64 ix,.slice a1 n1 c1,.slice a2 n2 c2] 94 (0,0)))∧Hid (Below w.heap.size w W)∧Hid (W.heap.size=w.heap.size+2)) ⟨?_,?_,?_,?_⟩ ?_
 ·exact (Below.heap_alloc _ _ _ (by simp)).trans (heap_alloc_new w _)
 ·have h:=heap_alloc_new (w.alloc (.cells #[.int .i64 B,.int .i64 H] 23)) (.cells #[.int .i64 dv,.int .i64 sq,.string sm,.int .i64 ix,.slice a1 n1 c1,.slice a2 n2 c2] 94)
  rwa [World.size_alloc] at h
 ·exact ((Below.refl _ _).alloc (Nat.le_refl _) _).alloc (by simp) _
 ·show _=_
  simp
 rintro W ⟨HGS,HG,HB,HW⟩
 obtain ⟨N,hN⟩:=ex_eq w.heap.size
 rw [hN] at HGS HG HB HW ⊢
 have HN:=hid hN
 clear hN
 have HSC:Hid (∀V,Below (N+2) W V→(V.cell? ⟨N,0,none⟩=some (.int .i64 B)∧V.cell? ⟨N,1,none⟩=some (.int .i64 H)∧V.cell? ⟨N+1,0,none⟩=some (.int .i64 dv)∧V.cell? ⟨N+1,1,none⟩=some (.int .i64 sq)∧V.cell? ⟨N+1,2,none⟩=some (.string sm)∧V.cell? ⟨N+1,3,none⟩=some (.int .i64 ix)∧V.cell? ⟨N+1,4,none⟩=some (.slice a1 n1 c1)∧V.cell? ⟨N+1,5,none⟩=some (.slice a2 n2 c2))):=hid (fun V h=>by
  obtain ⟨k0,k1,k2,k3,k4,k5⟩:=row6 ((h.block (N+1) (by omega)).trans HG.o)
  have hg:=(h.block N (by omega)).trans HGS.o
  exact ⟨cr hg,cr hg,k0,k1,k2,k3,k4,k5⟩)
 have HST:Hid (∀V V',Below (N+2) W V→Below V.heap.size V V'→Below (N+2) W V'):=hid (fun V V' h h'=>h.trans (h'.mono (by have:=h.size;have:=HW.o;omega)))
 have HEND:Hid (∀V,Below (N+2) W V→Below w.heap.size w V):=hid (fun V h=>by rw [HN.o];exact HB.o.trans (h.mono (by omega)))
 have HR0:Hid (Below (N+2) W W):=hid (Below.refl _ _)
 refine Kit.wp_region_hplan (fun V=>V.cell? ⟨N,0,none⟩=some (.int .i64 B)∧V.cell? ⟨N,1,none⟩=some (.int .i64 H)∧V.cell? ⟨N+1,0,none⟩=some (.int .i64 dv)∧V.cell? ⟨N+1,1,none⟩=some (.int .i64 sq)∧V.cell? ⟨N+1,2,none⟩=some (.string sm)∧V.cell? ⟨N+1,3,none⟩=some (.int .i64 ix)∧V.cell? ⟨N+1,4,none⟩=some (.slice a1 n1 c1)∧V.cell? ⟨N+1,5,none⟩=some (.slice a2 n2 c2)) [(true,0),(true,1),(false,2),(true,3),(true,4),(true,5),(false,6),(true,7),(true,8),(true,9),(true,10),(true,11),(true,12),(true,13),(true,14),(true,15),(true,16),(true,17),(true,19),(true,20),(false,18),(false,21),(true,22),(true,23)] (by kernel_rfl) (by kernel_rfl) (by kernel_rfl) (by kernel_rfl) (HSC.o W HR0.o) ?_
 iterate 2 (refine Kit.hhd (h:= ?_))
 refine Kit.hplan_op (by rfl) (by rfl) fun K hK=> ?_
 go_simp
 go_at_call 142
 (refine (HI.o _).mono ?_)
 rintro e wz ⟨rfl,rfl⟩
 refine hK _ _ (HSC.o _ HR0.o.drew) ?_
 clear hK K
 iterate 3 (refine Kit.hhd (h:= ?_))
 refine Kit.hplan_op (by rfl) (by rfl) fun K hK=> ?_
 go_simp
 go_at_call 142
 (refine (HI2.o _).mono ?_)
 rintro e wz ⟨rfl,rfl⟩
 refine hK _ _ (HSC.o _ HR0.o.drew) ?_
 clear hK K
 iterate 13 (refine Kit.hhd (h:= ?_))
 refine Kit.hsk (h:=?_)
 refine Kit.hsk (h:=?_)
 iterate 2 (refine Kit.hhd (h:= ?_))
 refine Kit.hdn (h:=?_)
 go_wp2_with fail
 go_ret
 exact ⟨rfl,HEND.o _ HR0.o.drew⟩
theorem verifyH_run (pk:ByteArray) (B H:Int) (dv sq:Int) (sm:ByteArray) (ix:Int) (a1:Option Addr) (n1 c1:Nat) (a2:Option Addr) (n2 c2:Nat) (ps qs:List ByteArray) (hb:(0≤dv∧dv≤11)∧(1≤sq∧sq≤1099511627776)∧sm.size=32) (hn1:ps.length=n1) (hn2:qs.length=n2) (hl1:n1<9223372036854775808) (hl2:n2<9223372036854775808) (w:World) (hP:StrsAt w a1 ps) (hQ:StrsAt w a2 qs) (hL:Laid w):
    Calls Tryz.prog 64 #[.string pk,.agg #[.int .i64 B,.int .i64 H],.agg #[.int .i64 dv,.int .i64 sq,.string sm,.int .i64 ix,.slice a1 n1 c1,.slice a2 n2 c2]] w fun e w'=>e= .returned (.bool (decide (SigAcc B H (nb pk) (headDg dv.toNat sq.toNat (nb sm)) ix (ps.map nb) (qs.map nb))))∧Below w.heap.size w w':=by
 have HI:=hid (fun w=>within_any dv 0 11 w)
 rw [show inB dv 0 11=true by unfold inB;rw [← Bool.decide_and];exact decide_eq_true hb.1] at HI
 have HI2:=hid (fun w=>within_any sq 1 1099511627776 w)
 rw [show inB sq 1 1099511627776=true by unfold inB;rw [← Bool.decide_and];exact decide_eq_true hb.2.1] at HI2
 have hsz:(((sm.size:Nat):Int)==32)=true:=by rw [hb.2.2];rfl
 obtain ⟨d,rfl⟩: ∃d:Nat,dv=(d:Int):=⟨dv.toNat,by omega⟩
 obtain ⟨q,rfl⟩: ∃q:Nat,sq=(q:Int):=⟨sq.toNat,by omega⟩
 rw [Int.toNat_natCast,Int.toNat_natCast]
 have HDG:=hid (fun w hL=>digest_ok d q sm hb.2.2 (by omega) (by omega) ix a1 n1 c1 a2 n2 c2 _ rfl w hL)
 obtain ⟨T,hT⟩:=ex_eq (headDg d q (nb sm))
 rw [hT] at HDG ⊢
 have HVF:=hid (fun (u:ByteArray) (hu:nb u=T) w hx hL=>(by rw [← hu];exact sigVerify_any B H pk u ix (.agg #[.int .i64 ix,.slice a1 n1 c1,.slice a2 n2 c2]) ps qs (by omega) (by omega) w hx hL:Calls Tryz.prog 102 #[.agg #[.int .i64 B,.int .i64 H],.string pk,.string u,.agg #[.int .i64 ix,.slice a1 n1 c1,.slice a2 n2 c2]] w fun e w'=>e= .returned (.bool (decide (SigAcc B H (nb pk) T ix (ps.map nb) (qs.map nb))))∧Below w.heap.size w w'))
 obtain ⟨D,hD⟩:=ex_eq (decide (SigAcc B H (nb pk) T ix (ps.map nb) (qs.map nb)))
 rw [hD] at HVF ⊢
 have HN1:=hid hn1
 have HN2:=hid hn2
 have HPS:=hid hP
 have HQS:=hid hQ
 have HL:=hid hL
 clear hb hT hD hn1 hn2 hl1 hl2 hP hQ hL
 go_enter Tryz.func64,Tryz.ntmps64
 go_upto_region 1 with fail
 refine wp_over (fun W=>Hid (W.heap[w.heap.size]? =some (.cells #[.int .i64 B,.int .i64 H] 23 (0,0)))∧Hid (W.heap[w.heap.size+1]? =some (.cells #[.int .i64 (d:Int),.int .i64 (q:Int),.string sm,.int .i64 ix,.slice a1 n1 c1,.slice a2 n2 c2] 94 (0,0)))∧Hid (Below w.heap.size w W)∧Hid (W.heap.size=w.heap.size+2)) ⟨?_,?_,?_,?_⟩ ?_
 ·exact (Below.heap_alloc _ _ _ (by simp)).trans (heap_alloc_new w _)
 ·have h:=heap_alloc_new (w.alloc (.cells #[.int .i64 B,.int .i64 H] 23)) (.cells #[.int .i64 (d:Int),.int .i64 (q:Int),.string sm,.int .i64 ix,.slice a1 n1 c1,.slice a2 n2 c2] 94)
  rwa [World.size_alloc] at h
 ·exact ((Below.refl _ _).alloc (Nat.le_refl _) _).alloc (by simp) _
 ·show _=_
  simp
 rintro W ⟨HGS,HG,HB,HW⟩
 obtain ⟨N,hN⟩:=ex_eq w.heap.size
 rw [hN] at HGS HG HB HW ⊢
 have HN:=hid hN
 clear hN
 have HSC:Hid (∀V,Below (N+2) W V→(V.cell? ⟨N,0,none⟩=some (.int .i64 B)∧V.cell? ⟨N,1,none⟩=some (.int .i64 H)∧V.cell? ⟨N+1,0,none⟩=some (.int .i64 (d:Int))∧V.cell? ⟨N+1,1,none⟩=some (.int .i64 (q:Int))∧V.cell? ⟨N+1,2,none⟩=some (.string sm)∧V.cell? ⟨N+1,3,none⟩=some (.int .i64 ix)∧V.cell? ⟨N+1,4,none⟩=some (.slice a1 n1 c1)∧V.cell? ⟨N+1,5,none⟩=some (.slice a2 n2 c2))):=hid (fun V h=>by
  obtain ⟨k0,k1,k2,k3,k4,k5⟩:=row6 ((h.block (N+1) (by omega)).trans HG.o)
  have hg:=(h.block N (by omega)).trans HGS.o
  exact ⟨cr hg,cr hg,k0,k1,k2,k3,k4,k5⟩)
 have HST:Hid (∀V V',Below (N+2) W V→Below V.heap.size V V'→Below (N+2) W V'):=hid (fun V V' h h'=>h.trans (h'.mono (by have:=h.size;have:=HW.o;omega)))
 have HEND:Hid (∀V,Below (N+2) W V→Below w.heap.size w V):=hid (fun V h=>by rw [HN.o];exact HB.o.trans (h.mono (by omega)))
 have HR0:Hid (Below (N+2) W W):=hid (Below.refl _ _)
 refine Kit.wp_region_hplan (fun V=>V.cell? ⟨N,0,none⟩=some (.int .i64 B)∧V.cell? ⟨N,1,none⟩=some (.int .i64 H)∧V.cell? ⟨N+1,0,none⟩=some (.int .i64 (d:Int))∧V.cell? ⟨N+1,1,none⟩=some (.int .i64 (q:Int))∧V.cell? ⟨N+1,2,none⟩=some (.string sm)∧V.cell? ⟨N+1,3,none⟩=some (.int .i64 ix)∧V.cell? ⟨N+1,4,none⟩=some (.slice a1 n1 c1)∧V.cell? ⟨N+1,5,none⟩=some (.slice a2 n2 c2)) [(true,0),(true,1),(false,2),(true,3),(true,4),(true,5),(false,6),(true,7),(true,8),(true,9),(true,10),(true,11),(true,12),(true,13),(true,14),(true,15),(true,16),(true,17),(true,19),(true,20),(false,18),(false,21),(true,22),(true,23)] (by kernel_rfl) (by kernel_rfl) (by kernel_rfl) (by kernel_rfl) (HSC.o W HR0.o) ?_
 iterate 2 (refine Kit.hhd (h:= ?_))
 refine Kit.hplan_op (by rfl) (by rfl) fun K hK=> ?_
 go_simp
 go_at_call 142
 (refine (HI.o _).mono ?_)
 rintro e wz ⟨rfl,rfl⟩
 refine hK _ _ (HSC.o _ HR0.o.drew) ?_
 clear hK K
 iterate 3 (refine Kit.hhd (h:= ?_))
 refine Kit.hplan_op (by rfl) (by rfl) fun K hK=> ?_
 go_simp
 go_at_call 142
 (refine (HI2.o _).mono ?_)
 rintro e wz ⟨rfl,rfl⟩
 refine hK _ _ (HSC.o _ HR0.o.drew) ?_
 clear hK K
 iterate 13 (refine Kit.hhd (h:= ?_))
 refine Kit.hplan_op (by rfl) (by rfl) fun K hK=> ?_
 go_simp
 go_at_call 158
 refine (HDG.o _ (HL.o.later ((HEND.o _ HR0.o).drew) (Nat.le_refl _))).mono ?_
 rintro e w5 ⟨u5,rfl,hu5,hz5,h5⟩
 have HU5:=hid hu5
 have H5:=hid (HST.o _ _ HR0.o ((Below.refl _ W).drew.trans h5))
 clear hu5 hz5 h5
 refine hK _ _ (HSC.o _ H5.o) ?_
 clear hK K
 refine Kit.hplan_op (by rfl) (by rfl) fun K hK=> ?_
 go_simp
 go_at_call 102
 refine (HVF.o u5 HU5.o _ ⟨a1,n1,c1,a2,n2,c2,rfl,HN1.o,HPS.o.later (HEND.o _ H5.o),HN2.o,HQS.o.later (HEND.o _ H5.o)⟩ (HL.o.later (HEND.o _ H5.o) (Nat.le_refl _))).mono ?_
 rintro e w6 ⟨rfl,h6⟩
 have H6:=hid (HST.o _ _ H5.o h6)
 clear h6
 refine hK _ _ (HSC.o _ H6.o) ?_
 clear hK K
 iterate 2 (refine Kit.hhd (h:= ?_))
 refine Kit.hdn (h:=?_)
 go_wp2_with fail
 go_ret
 exact ⟨rfl,HEND.o _ H6.o⟩
theorem verifyH_any (pk:ByteArray) (B H:Int) (x:HV) (hl1:x.h.ps.length<9223372036854775808) (hl2:x.h.qs.length<9223372036854775808) (w:World) (hP:StrsAt w x.a1 x.h.ps) (hQ:StrsAt w x.a2 x.h.qs) (hL:Laid w):
    Calls Tryz.prog 64 #[.string pk,.agg #[.int .i64 B,.int .i64 H],.agg #[.int .i64 x.h.dev,.int .i64 x.h.seq,.string x.h.sum,.int .i64 x.h.idx,.slice x.a1 x.h.ps.length x.c1,.slice x.a2 x.h.qs.length x.c2]] w fun e w'=>e= .returned (.bool (decide (SignedH B H (nb pk) x.h)))∧Below w.heap.size w w':=by
 by_cases h1:0≤x.h.dev∧x.h.dev≤11
 ·by_cases h2:1≤x.h.seq∧x.h.seq≤1099511627776
  ·by_cases h3:x.h.sum.size=32
   ·have hr:=verifyH_run pk B H x.h.dev x.h.seq x.h.sum x.h.idx x.a1 x.h.ps.length x.c1 x.a2 x.h.qs.length x.c2 x.h.ps x.h.qs ⟨h1,h2,h3⟩ rfl rfl hl1 hl2 w hP hQ hL
    have e:decide (SignedH B H (nb pk) x.h)=decide (SigAcc B H (nb pk) (headDg x.h.dev.toNat x.h.seq.toNat (nb x.h.sum)) x.h.idx (x.h.ps.map nb) (x.h.qs.map nb)):=by
     rw [decide_eq_decide]
     exact ⟨fun h=>h.2,fun h=>⟨⟨h1.1,h1.2,h2.1,h2.2,h3⟩,h⟩⟩
    rw [e]
    exact hr
   ·rw [decide_eq_false (fun h=>h3 h.1.2.2.2.2)]
    exact verifyH_sum pk B H x.h.dev x.h.seq x.h.sum x.h.idx x.a1 x.h.ps.length x.c1 x.a2 x.h.qs.length x.c2 x.h.ps x.h.qs ⟨h1,h2,h3⟩ w
  ·rw [decide_eq_false (fun h=>h2 ⟨h.1.2.2.1,h.1.2.2.2.1⟩)]
   exact verifyH_seq pk B H x.h.dev x.h.seq x.h.sum x.h.idx x.a1 x.h.ps.length x.c1 x.a2 x.h.qs.length x.c2 x.h.ps x.h.qs ⟨h1,h2⟩ w
 ·rw [decide_eq_false (fun h=>h1 ⟨h.1.1,h.1.2.1⟩)]
  exact verifyH_dev pk B H x.h.dev x.h.seq x.h.sum x.h.idx x.a1 x.h.ps.length x.c1 x.a2 x.h.qs.length x.c2 x.h.ps x.h.qs h1 w
end Go.Proofs.YtndlihclgdkpaaaGreatDoor
