/- Book.Add: what lies there behind it; the list of a piece, searched and inserted into. -/
import Derived.Test.YtndlihclgdkpaaaGreatDoorQad
import Derived.Test.YtndlihclgdkpaaaGreatDoorQso
set_option linter.unusedVariables false
set_option linter.unusedSimpArgs false
open Go.Lib (hid)
namespace Go.Proofs.YtndlihclgdkpaaaGreatDoor
open Go.RowKit
open Go.Maps
open Kit (Chg)
open Sha (v)
open Go.Proofs.YtndlihclgdkpaaaGreatDoor.One

def LRow (w:World) (la:Option Addr) (ln lc:Nat) (xs:List RcV):Prop:=(la=none∧ln=0∧lc=0∧xs=[])∨ ∃g,la=some ⟨g,0,none⟩∧xs.length=ln∧RowN RcV.cells 14 47 w g lc xs
theorem LRow.later {w w':World} {la:Option Addr} {ln lc:Nat} {xs:List RcV} (h:LRow w la ln lc xs) (hb:Below w.heap.size w w'):LRow w' la ln lc xs:=by
 rcases h with h | ⟨g,h1,h2,h3⟩
 ·exact .inl h
 ·exact .inr ⟨g,h1,h2,h3.later hb⟩
theorem LRow.len {w:World} {la:Option Addr} {ln lc:Nat} {xs:List RcV} (h:LRow w la ln lc xs):xs.length=ln:=by
 rcases h with ⟨_,rfl,_,rfl⟩ | ⟨g,_,h,_⟩
 ·rfl
 ·exact h
def laIs (la:Option Addr) (q:Nat):Prop:= ∃g,la=some ⟨g,0,none⟩∧q=g
theorem listF_put {R:Pc→Option BRow} {p:Pc} {r:BRow} {key:Value} {l:Lit} (hk:keyOf Tryz.prog 42 key=some l) (hne:key≠pieceV p.s p.i):listF (fun q=>if q=p then some r else R q) key=listF R key:=by
 obtain ⟨s,i,rfl,_⟩:=pieceInv hk
 rw [listF_piece,listF_piece]
 have:(⟨s,i⟩:Pc)≠p:=fun e=>hne (by rw [← e])
 simp only [if_neg this]
theorem numF_ins {m:List Rc} (hg:GoodB m) {r:Rc} (hr:ValidR r) (hn:findN m r.hol r.ser=none) {key:Value} (hne:key≠numberV r.hol r.ser):numF (insB m r) key=numF m key:=by
 unfold numF
 split
 ·rename_i h s
  rw [findN_ins hg hr hn,if_neg]
  rintro ⟨rfl,rfl⟩
  exact hne rfl
 ·rfl
theorem take_ins {xs:List RcV} {x:RcV} {k:Nat} (hs:(xs.map RcV.r).Pairwise (fun a b=>befR a b=true)) (hn: ∀y ∈ xs,¬(y.r.hol=x.r.hol∧y.r.ser=x.r.ser)) (hk:k=xs.countP (fun y=> !befR x.r y.r)):(xs.take k++x::xs.drop k).map RcV.r=insB (xs.map RcV.r) x.r:=by
 have e1:(xs.map RcV.r).countP (fun y=>befR y x.r)=k:=by
  rw [hk,List.countP_map]
  refine List.countP_congr fun y hy=> ?_
  simp only [Function.comp]
  rcases befR_total (hn y hy) with h | h
  ·rw [h,befR_anti h];simp
  ·rw [befR_anti h,h];simp
 obtain ⟨h1,h2⟩:=filter_down (p:=fun y=>befR y x.r) (hs.imp (fun {a b} hab hb=>befR_trans hab hb))
 unfold insB
 rw [h1,h2,e1,List.map_append,List.map_cons,List.map_take,List.map_drop]
theorem BookR.added {w5 w6 w7 w8 w9:World} {O:Nat→Prop} {bk b1 b2:Nat} {R:Pc→Option BRow} {m:List Rc} {c:Nat} {x:RcV} (h:BookR w5 O bk b1 b2 R m c) (hv:ValidR x.r) (hn:findN m x.r.hol x.r.ser=none) {la:Option Addr} {lc:Nat} {xs:List RcV} {k:Nat} (hrow:(R x.r.pc=none∧la=none∧xs=[])∨ ∃g,R x.r.pc=some ⟨g,lc,xs⟩∧la=some ⟨g,0,none⟩) (hk:k=xs.countP (fun y=> !befR x.r y.r)) {B:Nat} (hB:B≤w5.heap.size) (hOB: ∀q,O q→q<B) (hxo:x.ok w5) (hxb: ∀q,x.blk q→B≤q) {bl cap':Nat} (hbl:laIs la bl∨w5.heap.size≤bl) (h6:RowN RcV.cells 14 47 w6 bl cap' (xs.take k++x::xs.drop k)) (c6:Chg (fun q _=>laIs la q) w5 w6) (m7:MapV Tryz.prog 42 w7 b1 (c+1) (listF (fun q=>if q=x.r.pc then some ⟨bl,cap',xs.take k++x::xs.drop k⟩ else R q))) (g7:w6.grownBy w7 (some b1)) (b8:Below w7.heap.size w7 w8) (m9:MapV Tryz.prog 200 w9 b2 (c+1) (numF (insB m x.r))) (g9:w8.grownBy w9 (some b2)):
    BookR w9 (fun q=>O q∨(B≤q∧q<w9.heap.size)) bk b1 b2 (fun q=>if q=x.r.pc then some ⟨bl,cap',xs.take k++x::xs.drop k⟩ else R q) (insB m x.r) (c+1):=by
 have hlaO: ∀q,laIs la q→O q∧ ∃r,R x.r.pc=some r∧r.g=q:=fun q hq=>by
  obtain ⟨g,e,rfl⟩:=hq
  rcases hrow with ⟨_,e2,_⟩ | ⟨g',hR,e2⟩
  ·rw [e2] at e;cases e
  ·rw [e2] at e
   have:g'=q:=by injection e with e;injection e
   subst this
   exact ⟨h.og _ _ hR,_,hR,rfl⟩
 obtain ⟨es,cl,hb1⟩:=h.m1.isMap
 obtain ⟨es2,cl2,hb2⟩:=h.m2.isMap
 have hcell: ∀q,(∃cc t f,w5.heap[q]? =some (.cells cc t f))→q≠b1∧q≠b2:=fun q ⟨cc,t,f,hq⟩=>⟨fun e=>(by rw [e,hb1] at hq;cases hq),fun e=>(by rw [e,hb2] at hq;cases hq)⟩
 have s5:w5.heap.size≤w6.heap.size:=c6.size
 have s6:w6.heap.size≤w7.heap.size:=g7.size
 have s7:w7.heap.size≤w8.heap.size:=b8.size
 have s8:w8.heap.size≤w9.heap.size:=g9.size
 have hb1l:b1<w5.heap.size:=h.lt b1 h.o1
 have hb2l:b2<w5.heap.size:=h.lt b2 h.o2
 -- from w6 on only the maps are turned
 have c9:Chg (fun q _=>q=b1∨q=b2) w6 w9:=(Chg.of_grown g7 (fun k i e=> .inl (by injection e with e;exact e.symm))).trans ((Chg.of_below b8).trans (Chg.of_grown g9 (fun k i e=> .inr (by injection e with e;exact e.symm))))
 have call:Chg (fun q _=>laIs la q∨q=b1∨q=b2) w5 w9:=(c6.mono (fun _ _ _ h=> .inl h)).trans (c9.mono (fun _ _ _ h=> .inr h))
 have hrowcell: ∀p r,R p=some r→ ∃cc t f,w5.heap[r.g]? =some (.cells cc t f):=fun p r hr=>by
  obtain ⟨rest,hg,_⟩:=(h.row p r hr).1
  exact ⟨_,_,_,hg⟩
 have hbkc: ∃cc t f,w5.heap[bk]? =some (.cells cc t f):=⟨_,_,_,h.cell⟩
 have hTne: ∀q,laIs la q→ ∃cs f,w5.heap[q]? =some (.cells cs 47 f):=fun q hq=>by
  obtain ⟨_,r,hr,rfl⟩:=hlaO q hq
  obtain ⟨rest,hg,_⟩:=(h.row _ r hr).1
  exact ⟨_,_,hg⟩
 have hbkla: ¬laIs la bk:=fun hq=>by
  obtain ⟨cs,f,hg⟩:=hTne bk hq
  rw [h.cell] at hg
  injection hg with hg
  injection hg with _ e2
  exact absurd e2 (by decide)
 have hxs: ∀y ∈ xs,∃r,R x.r.pc=some r∧y ∈ r.xs:=fun y hy=>by
  rcases hrow with ⟨_,_,e⟩ | ⟨g,hR,_⟩
  ·rw [e] at hy;simp at hy
  ·exact ⟨_,hR,hy⟩
 have hxsof:xs.map RcV.r=ofB m x.r.pc:=by
  rcases hrow with ⟨hR,_,e⟩ | ⟨g,hR,_⟩
  ·rw [e,h.no _ hR];rfl
  ·exact (h.row _ _ hR).2.1
 have hnb: ∀y ∈ xs,¬(y.r.hol=x.r.hol∧y.r.ser=x.r.ser):=fun y hy=>by
  have:y.r ∈ ofB m x.r.pc:=by rw [← hxsof];exact List.mem_map_of_mem hy
  exact findN_none.1 hn _ (List.mem_filter.1 this).1
 have hmap:(xs.take k++x::xs.drop k).map RcV.r=ofB (insB m x.r) x.r.pc:=by
  rw [take_ins (by rw [hxsof];exact (h.good.filter _).s) hnb hk,hxsof,ofB_ins h.good,if_pos rfl]
 -- where bl lies
 have hblB: ∀p r,R p=some r→p≠x.r.pc→r.g≠bl:=fun p r hr hp e=>by
  rcases hbl with hq | hq
  ·obtain ⟨_,r',hr',e'⟩:=hlaO bl hq
   exact hp (h.apart p r _ r' hr hr' (by rw [e,e']))
  ·have:=h.lt _ (h.og p r hr)
   omega
 have hbl9:bl<w6.heap.size:=h6.lt
 have hblm:bl≠b1∧bl≠b2:=by
  rcases hbl with hq | hq
  ·exact hcell bl (by obtain ⟨cs,f,hg⟩:=hTne bl hq;exact ⟨_,_,_,hg⟩)
  ·omega
 have hok: ∀y:RcV,y.ok w5→(∀q,laIs la q→ ¬y.blk q)→y.ok w9:=fun y hy hnq=>hy.keepB call (fun q hq i hm=>by
  rcases hm with hm | hm | hm
  ·exact hnq q hm hq
  ·exact (hcell q (hy.block hq)).1 hm
  ·exact (hcell q (hy.block hq)).2 hm)
 have hoff: ∀y,(∃p r,R p=some r∧y ∈ r.xs)→(∀q,laIs la q→ ¬y.blk q):=fun y ⟨p,r,hr,hy⟩ q hq=>by
  obtain ⟨_,r',hr',rfl⟩:=hlaO q hq
  exact (h.ok p r hr y hy).2.2 _ r' hr'
 have hxla: ∀q,laIs la q→ ¬x.blk q:=fun q hq hb=>by
  have h1:=hOB q (hlaO q hq).1
  have h2:=hxb q hb
  omega
 have hblold: ∀y:RcV,(∃p r,R p=some r∧y ∈ r.xs)→ ¬y.blk bl:=fun y ⟨p,r,hr,hy⟩ hq=>by
  rcases hbl with hb | hb
  ·exact hoff y ⟨p,r,hr,hy⟩ bl hb hq
  ·have:=h.lt _ ((h.ok p r hr y hy).2.1 bl hq)
   omega
 have hblx: ¬x.blk bl:=fun hq=>by
  rcases hbl with hb | hb
  ·exact hxla bl hb hq
  ·have:=hxo.blk_lt hq
   omega
 have hnewg: ∀(y:RcV),(∀p r,R p=some r→ ¬y.blk r.g)→ ¬y.blk bl→ ∀p' r',(if p'=x.r.pc then some (⟨bl,cap',xs.take k++x::xs.drop k⟩:BRow) else R p')=some r'→ ¬y.blk r'.g:=fun y h1 h2 p' r' hr'=>by
  split at hr'
  ·cases hr';exact h2
  ·exact h1 p' r' hr'
 have hxg: ∀p r,R p=some r→ ¬x.blk r.g:=fun p r hr hq=>by
  have h1:=hOB _ (h.og p r hr)
  have h2:=hxb _ hq
  omega
 have hblO:O bl∨(B≤bl∧bl<w9.heap.size):=by
  rcases hbl with hq | hq
  ·exact .inl (hlaO bl hq).1
  ·exact .inr ⟨by omega,by omega⟩
 refine ⟨h.good.ins hv (findN_none.1 hn),by rw [insB_len];have:=h.len;omega,?_,?_,m9,h.ne12,?_,?_,?_,?_,.inl h.o0,.inl h.o1,.inl h.o2,?_,?_⟩
 ·exact (call.other bk (h.lt bk h.o0) (fun i hm=>by
     rcases hm with hm | hm | hm
     ·exact hbkla hm
     ·exact (hcell bk hbkc).1 hm
     ·exact (hcell bk hbkc).2 hm)).trans h.cell
 ·refine m7.keep ?_
  have e1:w8.heap[b1]? =w7.heap[b1]? :=b8.block b1 (by omega)
  have e2:w9.heap[b1]? =w8.heap[b1]? :=g9.block b1 (by omega) (fun e=>by
   injection e with e
   exact h.ne12 e)
  exact e2.trans e1
 ·intro p r hr
  split at hr
  ·rename_i hp
   cases hr
   subst hp
   exact ⟨h6.keep (c9.other bl hbl9 (fun i hm=>hm.elim hblm.1 hblm.2)),hmap,by simp⟩
  ·rename_i hp
   obtain ⟨a1,a2,a3⟩:=h.row p r hr
   refine ⟨a1.keep (call.other r.g (h.lt _ (h.og p r hr)) (fun i hm=> ?_)),by rw [a2,ofB_ins h.good,if_neg (fun e=>hp e.symm)],a3⟩
   rcases hm with hm | hm | hm
   ·obtain ⟨_,r',hr',e⟩:=hlaO _ hm
    exact hp (h.apart p r _ r' hr hr' e.symm)
   ·exact (hcell _ (hrowcell p r hr)).1 hm
   ·exact (hcell _ (hrowcell p r hr)).2 hm
 ·intro p hp
  split at hp
  ·cases hp
  ·rename_i hne
   rw [ofB_ins h.good,if_neg (fun e=>hne e.symm)]
   exact h.no p hp
 ·intro p r hr y hy
  split at hr
  ·cases hr
   simp only at hy
   rcases List.mem_append.1 hy with e | e
   ·obtain ⟨r0,hr0,hy0⟩:=hxs y (List.mem_of_mem_take e)
    obtain ⟨a1,a2,a3⟩:=h.ok _ r0 hr0 y hy0
    exact ⟨hok y a1 (hoff y ⟨_,r0,hr0,hy0⟩),fun q hq=> .inl (a2 q hq),hnewg y a3 (hblold y ⟨_,r0,hr0,hy0⟩)⟩
   ·rcases List.mem_cons.1 e with e | e
    ·subst e
     exact ⟨hok y hxo hxla,fun q hq=> .inr ⟨hxb q hq,by have:=hxo.blk_lt hq;omega⟩,hnewg y hxg hblx⟩
    ·obtain ⟨r0,hr0,hy0⟩:=hxs y (List.mem_of_mem_drop e)
     obtain ⟨a1,a2,a3⟩:=h.ok _ r0 hr0 y hy0
     exact ⟨hok y a1 (hoff y ⟨_,r0,hr0,hy0⟩),fun q hq=> .inl (a2 q hq),hnewg y a3 (hblold y ⟨_,r0,hr0,hy0⟩)⟩
  ·obtain ⟨a1,a2,a3⟩:=h.ok p r hr y hy
   exact ⟨hok y a1 (hoff y ⟨p,r,hr,hy⟩),fun q hq=> .inl (a2 q hq),hnewg y a3 (hblold y ⟨p,r,hr,hy⟩)⟩
 ·intro p r p' r' hr hr' e
  split at hr<;> split at hr'
  ·rename_i e1 e2
   rw [e1,e2]
  ·rename_i e1 e2
   cases hr
   exact absurd e.symm (hblB p' r' hr' e2)
  ·rename_i e1 e2
   cases hr'
   exact absurd e (hblB p r hr e1)
  ·exact h.apart p r p' r' hr hr' e
 ·intro p r hr
  split at hr
  ·cases hr;exact hblO
  ·exact .inl (h.og p r hr)
 ·rintro q (hq | hq)
  ·have:=h.lt q hq;omega
  ·exact hq.2
theorem searchL_any (PL N ln lc:Nat) (la:Option Addr) (xs:List RcV) (x:RcV) (hn2:ln≤1000000) (hs:xs.Pairwise (fun a b=>befR a.r b.r=true)) (w:World) (hL:LRow w la ln lc xs) (hl:w.cell? ⟨PL,0,none⟩=some (.slice la ln lc)) (hx: ∀j,j<14→w.cell? ⟨N,j,none⟩=x.cells[j]?):
    Calls Tryz.prog 130 #[.int .i64 (ln:Int),.func (.func 131) #[] #[.pointer (some ⟨PL,0,none⟩),.pointer (some ⟨N,0,none⟩)]] w fun e w'=>e= .returned (.int .i64 ((xs.countP (fun y=> !befR x.r y.r):Nat):Int))∧Below w.heap.size w w':=by
 rcases hL with ⟨rfl,rfl,rfl,rfl⟩ | ⟨g,rfl,hlen,hr⟩
 ·refine (Any.sort_Search lay_search 131 _ 0 (fun _=>false) w (enters_of Tryz.func131 (by kernel_rfl) rfl) (by omega) (fun m os i hi=>absurd hi (Nat.not_lt_zero i)) (fun a b _ hb _=>absurd hb (Nat.not_lt_zero b))).mono ?_
  rintro e w' ⟨rfl,q,os,rfl⟩
  exact ⟨rfl,grow_below w q os⟩
 ·exact search_any PL N g lc ln xs x hlen hn2 hs w hl hx (fun k h j hj=>(hr.cells RcV.len k h).1 j hj)
theorem insertL_any (ln lc k vb:Nat) (la:Option Addr) (xs:List RcV) (x:RcV) (hk:k≤ln) (hn2:ln≤1000000) (w:World) (hL:LRow w la ln lc xs) (hvb: ∀g,la=some ⟨g,0,none⟩→vb≠g) (hx:w.heap[vb]? =some (.cells x.cells.toArray 47 (0,0))):
    Calls Tryz.prog 133 #[.slice la ln lc,.int .i64 (k:Int),.slice (some ⟨vb,0,none⟩) 1 1] w fun e w'=> ∃bl cap',e= .returned (.slice (some ⟨bl,0,none⟩) (ln+1) cap')∧(laIs la bl∨w.heap.size≤bl)∧RowN RcV.cells 14 47 w' bl cap' (xs.take k++x::xs.drop k)∧Chg (fun q _=>laIs la q) w w':=by
 rcases hL with ⟨rfl,rfl,rfl,rfl⟩ | ⟨g,rfl,hlen,hr⟩
 ·obtain rfl:k=0:=by omega
  refine (insert_nil vb x w hx).mono ?_
  rintro e w' ⟨bl,cap,rfl,h1,h2,h3⟩
  exact ⟨bl,cap,rfl,.inr h1,h2,Chg.of_below h3⟩
 ·by_cases he:k=ln
  ·subst he
   refine (insert_end g lc k vb xs x hlen hn2 w hr hx).mono ?_
   rintro e w' ⟨bl,cap,rfl,h1,h2,h3⟩
   refine ⟨bl,cap,rfl,h1.imp (fun e=>⟨g,rfl,e⟩) id,?_,h3.mono (fun q _ _ e=>⟨g,rfl,e⟩)⟩
   rw [← hlen,List.take_length,List.drop_length]
   exact h2
  ·have hcap:ln≤lc:=by obtain ⟨_,_,h,_⟩:=hr;omega
   by_cases hc:lc=ln
   ·subst hc
    refine (insert_grow g lc k vb xs x hlen (by omega) hn2 w hr hx).mono ?_
    rintro e w' ⟨bl,cap,rfl,h1,h2,h3⟩
    exact ⟨bl,cap,rfl,.inr h1,h2,Chg.of_below h3⟩
   ·refine (insert_room g lc ln k vb xs x hlen (by omega) (by omega) hn2 w hr (hvb g rfl) hx).mono ?_
    rintro e w' ⟨rfl,h2,h3⟩
    exact ⟨g,lc,rfl,.inl ⟨g,rfl,rfl⟩,h2,h3.mono (fun q _ _ e=>⟨g,rfl,e⟩)⟩
end Go.Proofs.YtndlihclgdkpaaaGreatDoor
