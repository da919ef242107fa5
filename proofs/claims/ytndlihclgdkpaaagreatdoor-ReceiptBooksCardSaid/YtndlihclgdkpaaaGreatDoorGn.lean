/- Texts Qof, Qca, Qho, Qre, Qsi, merged. -/
import Derived.Shelf.SlSortCmp.NoneTotal
import Derived.Test.YtndlihclgdkpaaaGreatDoorQso
import Derived.Test.YtndlihclgdkpaaaGreatDoorQae
import Derived.Test.YtndlihclgdkpaaaGreatDoorGc
import Derived.Test.YtndlihclgdkpaaaGreatDoorGd
import Derived.Test.YtndlihclgdkpaaaGreatDoorGm
/- Book.Of. -/
set_option linter.unusedVariables false
set_option linter.unusedSimpArgs false
open Go.Lib (hid)
set_option maxHeartbeats 4000000
set_option maxRecDepth 100000
namespace Go.Proofs.YtndlihclgdkpaaaGreatDoor
open Go.RowKit
open Go.Maps
open Kit (Chg)
open Sha (v)
open Go.Proofs.YtndlihclgdkpaaaGreatDoor.One

theorem GoodB.sizes {m:List Rc} (h:GoodB m) {r:Rc} (hr:r ∈ m):r.path.length≤8∧r.parts.length≤300∧r.sp.length≤8:=⟨(h.v r hr).pn,(h.v r hr).an,(h.v r hr).qn⟩
def OwnRc (w:World) (B:Nat) (v:Value) (n:Nat) (ys:List RcV):Prop:=w.ownsRow B 47 14 v n (rcv ys)∧ys.length=n∧ ∀y ∈ ys,y.ok w∧(∀q,y.blk q→B≤q)∧ ∀g,v.ownBlock=some g→ ¬y.blk g
theorem own_lt {w:World} {B n:Nat} {v:Value} {xs:List Value} {T size:Nat} (h:w.ownsRow B T size v n xs) {g:Nat} (hg:v.ownBlock=some g):B≤g∧g<w.heap.size:=by
 rcases h.2 with ⟨e,_⟩ | ⟨g',cap,cur,e,h1,h2,_⟩
 ·rw [e] at hg;cases hg
 ·rw [e] at hg
  have:g'=g:=by injection hg
  subst this
  exact ⟨h1,(gS h2).1⟩
theorem OwnRc.later {w w':World} {B n:Nat} {v:Value} {ys:List RcV} (h:OwnRc w B v n ys) (hb:Below w.heap.size w w'):OwnRc w' B v n ys:=⟨own_later h.1 hb,h.2.1,fun y hy=>⟨(h.2.2 y hy).1.later hb,(h.2.2 y hy).2⟩⟩
theorem OwnRc.nil (w:World) (B:Nat):OwnRc w B (.slice none 0 0) 0 []:=⟨World.ownsRow_nil _ _ _ _,rfl,fun y hy=>by simp at hy⟩
theorem OwnRc.snoc {w w':World} {B n bl cap:Nat} {v:Value} {ys:List RcV} {x:RcV} (h:OwnRc w B v n ys) (hx:x.ok w) (hxb: ∀q,x.blk q→B≤q) (hxv: ∀g,v.ownBlock=some g→ ¬x.blk g) (ho:w'.ownsRow B 47 14 (.slice (some ⟨bl,0,none⟩) (n+1) cap) (n+1) (rcv (ys++[x]))) (hg:w.grownBy w' v.ownBlock) (hbl:some bl=v.ownBlock∨bl=w.heap.size):OwnRc w' B (.slice (some ⟨bl,0,none⟩) (n+1) cap) (n+1) (ys++[x]):=by
 have hc:Chg (fun q _=>v.ownBlock=some q) w w':=Chg.of_grown hg (fun k i e=>e)
 have key: ∀y:RcV,y.ok w→(∀g,v.ownBlock=some g→ ¬y.blk g)→y.ok w'∧ ¬y.blk bl:=fun y hy hn=>⟨hy.keepB hc (fun q hq i e=>hn q e hq),fun hq=>by
  rcases hbl with e | e
  ·exact hn bl e.symm hq
  ·have:=hy.blk_lt hq;omega⟩
 refine ⟨ho,by rw [List.length_append,h.2.1];rfl,fun y hy=> ?_⟩
 have hown:(Value.slice (some ⟨bl,0,none⟩) (n+1) cap).ownBlock=some bl:=rfl
 rcases List.mem_append.1 hy with e | e
 ·obtain ⟨a1,a2,a3⟩:=h.2.2 y e
  obtain ⟨k1,k2⟩:=key y a1 a3
  exact ⟨k1,a2,fun g hg'=>by rw [hown] at hg';injection hg' with hg';subst hg';exact k2⟩
 ·rw [List.mem_singleton] at e
  subst e
  obtain ⟨k1,k2⟩:=key y hx hxv
  exact ⟨k1,hxb,fun g hg'=>by rw [hown] at hg';injection hg' with hg';subst hg';exact k2⟩
theorem of_any (O:Nat→Prop) (bk:Nat) (m:List Rc) (c:Nat) (hc:c≤100000) (s:ByteArray) (i:Int) (hs:s.size≤maxLen) (hi:(Lit.int .i64 i).wf=true) (w:World) (hB:BookAt w O bk m c):Calls Tryz.prog 47 #[.pointer (some ⟨bk,0,none⟩),.agg #[.string s,.int .i64 i]] w fun e w'=> ∃v,e= .returned v∧ ∃n ys,OwnRc w' w.heap.size v n ys∧ys.map RcV.r=ofB m ⟨s,i⟩∧Below w.heap.size w w':=by
 obtain ⟨b1,b2,R,hB⟩:=hB
 have HBK:=hid hB
 have HKS:=hid hs
 have HKI:=hid hi
 obtain ⟨la,ln,lc,xs,hla,hlk⟩: ∃(la:Option Addr) (ln lc:Nat) (xs:List RcV),((la=none∧ln=0∧lc=0∧xs=[]∧R ⟨s,i⟩=none)∨ ∃g,la=some ⟨g,0,none⟩∧xs.length=ln∧R ⟨s,i⟩=some ⟨g,lc,xs⟩)∧((R ⟨s,i⟩).map BRow.val).getD (.slice none 0 0)= .slice la ln lc:=by
  cases hR:R ⟨s,i⟩ with
  | none=>exact ⟨none,0,0,[],.inl ⟨rfl,rfl,rfl,rfl,rfl⟩,rfl⟩
  | some r=>exact ⟨some ⟨r.g,0,none⟩,r.xs.length,r.cap,r.xs,.inr ⟨r.g,rfl,rfl,rfl⟩,rfl⟩
 have HLK:=hid hlk
 have HXF:Hid (xs.map RcV.r=ofB m ⟨s,i⟩∧xs.length=ln):=hid (by
  rcases hla with ⟨_,e1,_,e,hR⟩ | ⟨g,_,e,hR⟩
  ·rw [e,e1,hB.no _ hR];exact ⟨rfl,rfl⟩
  ·exact ⟨(hB.row _ _ hR).2.1,e⟩)
 have HLA:=hid hla
 have HSZ:Hid (∀x ∈ xs,x.r.path.length≤8∧x.r.parts.length≤300∧x.r.sp.length≤8):=hid (fun x hx=>by
  have h:x.r ∈ ofB m ⟨s,i⟩:=by rw [← HXF.o.1];exact List.mem_map_of_mem hx
  exact hB.good.sizes (List.mem_filter.1 h).1)
 have hln:ln≤100000:=by
  have e1:=congrArg List.length HXF.o.1
  rw [List.length_map,HXF.o.2] at e1
  have e2:(ofB m ⟨s,i⟩).length≤m.length:=List.length_filter_le _ _
  have:=hB.len
  omega
 clear hB hs hi hla hlk
 go_enter Tryz.func47,Tryz.ntmps47
 go_upto_region 2 with fail
 refine wp_over (fun W=>Hid (W.heap[w.heap.size]? =some (.cells #[.string s,.int .i64 i] 42 (0,0)))∧Hid (Below w.heap.size w W)∧Hid (W.heap.size=w.heap.size+1)) ⟨heap_alloc_new _ _,(Below.refl _ _).alloc (Nat.le_refl _) _,by show _=_;simp⟩ ?_
 rintro W ⟨HG,HB,HW⟩
 obtain ⟨N,hN⟩:=ex_eq w.heap.size
 rw [hN] at HG HB HW ⊢
 have HN:=hid hN
 clear hN
 have HSB:Hid (∀V,Below N w V→Below (N+1) W V→V.cell? ⟨bk,0,none⟩=some (.map (some b1))∧(V.cell? ⟨N,0,none⟩=some (.string s)∧V.cell? ⟨N,1,none⟩=some (.int .i64 i))∧(Instr.lookup 195 (.map (some b1)) (.agg #[.string s,.int .i64 i]) false).run Tryz.prog V= .ok (.slice la ln lc) V):=hid (fun V h h2=>by
  have hb:=HBK.o.later (by rw [HN.o];exact h)
  have hl:=hb.look HKS.o HKI.o
  have hg:=(h2.block N (by omega)).trans HG.o
  rw [HLK.o] at hl
  exact ⟨hb.cells.1,⟨cr hg,cr hg⟩,hl⟩)
 have HDR:Hid (Below (N+1) W W.drew):=hid (Below.refl _ _).drew
 have HDW:Hid (W.drew.heap.size=N+1):=hid HW.o
 obtain ⟨VD,hVD⟩:=ex_eq W.drew
 rw [hVD] at HDR HDW
 refine Kit.wp_region_gplan (fun V=>V.cell? ⟨bk,0,none⟩=some (.map (some b1))∧(V.cell? ⟨N,0,none⟩=some (.string s)∧V.cell? ⟨N,1,none⟩=some (.int .i64 i))∧(Instr.lookup 195 (.map (some b1)) (.agg #[.string s,.int .i64 i]) false).run Tryz.prog V= .ok (.slice la ln lc) V) [(true,0),(true,1),(true,2),(true,3),(true,4),(true,5),(true,6),(true,7)] (by kernel_rfl) (by kernel_rfl) (by kernel_rfl) (by kernel_rfl) (by rw [hVD];exact HSB.o _ (HB.o.trans (HDR.o.mono (by omega))) HDR.o) ?_
 rw [hVD]
 clear hVD
 iterate 8 (refine Kit.ghd (h:= ?_))
 refine Kit.gdn (h:=?_)
 have HWV:Hid (Below w.heap.size w VD):=hid (by rw [HN.o];exact HB.o.trans (HDR.o.mono (by omega)))
 go_upto_region 3 with fail
 go_loopw [15,5] (fun z v wr=> ∃k:Nat,k≤ln∧z= .int .i64 (k:Int)∧Hid (∃ys,OwnRc wr N v k ys∧ys.map RcV.r=(xs.map RcV.r).take k)∧Hid (Below N w wr)) (fun z _ _=>ln - (intOf z).toNat)
 case atStart=>exact ⟨0,Nat.zero_le _,rfl,hid ⟨[],OwnRc.nil _ _,by simp⟩,hid (HB.o.trans (HDR.o.mono (by omega)))⟩
 case round=>
  obtain ⟨k,hk,rfl,HYS,HBE⟩:=hrel
  by_cases hlt:k<ln
  rotate_left
  ·have hki: ¬(k:Int)<(ln:Int):=by omega
   have hke:k=ln:=by omega
   go_wp2_with fail
   go_ret
   obtain ⟨ys,h1,h2⟩:=HYS.o
   exact ⟨_,rfl,_,ys,by rw [HN.o];exact h1,by rw [h2,hke,← HXF.o.1,List.take_of_length_le (by rw [List.length_map,HXF.o.2];exact Nat.le_refl _)],by rw [HN.o];exact HBE.o⟩
  have hki:(k:Int)<(ln:Int):=by omega
  have HKX:Hid (k<xs.length):=hid (by rw [HXF.o.2];exact hlt)
  obtain ⟨g,hg,hgx⟩: ∃g,la=some ⟨g,0,none⟩∧R ⟨s,i⟩=some ⟨g,lc,xs⟩:=by
   rcases HLA.o with ⟨_,h,_⟩ | ⟨g,h1,_,h3⟩
   ·omega
   ·exact ⟨g,h1,h3⟩
  subst hg
  have HGX:=hid hgx
  clear hgx
  have HBR:=hid (HBK.o.later (by rw [HN.o];exact HBE.o:Below w.heap.size w wr))
  have hce:=((HBR.o.row _ _ HGX.o).1.cells RcV.len k HKX.o).1
  have HXO:=hid (HBR.o.ok _ _ HGX.o (xs[k]'HKX.o) (List.getElem_mem _)).1
  have HZ8:=hid (HSZ.o (xs[k]'HKX.o) (List.getElem_mem _))
  have HXR:Hid ((xs.map RcV.r).take (k+1)=(xs.map RcV.r).take k++[(xs[k]'HKX.o).r]):=hid (by
   rw [List.take_succ_eq_append_getElem (by rw [List.length_map];exact HKX.o),List.getElem_map])
  obtain ⟨x,hx⟩:=ex_eq (xs[k]'HKX.o)
  rw [hx] at hce HXO HZ8 HXR
  clear hx
  obtain ⟨⟨hol,vlt,str,ix,sz,day,ser,cnt,pl,root,pa,si,pt,sq⟩,ap,c1,aq,c2,ar,c3⟩:=x
  simp only [RcV.cells] at hce
  obtain ⟨n1,e1⟩:=ex_eq pa.length
  obtain ⟨n2,e2⟩:=ex_eq pt.length
  obtain ⟨n3,e3⟩:=ex_eq sq.length
  rw [e1,e2,e3] at hce
  have HLN:Hid (pa.length=n1∧pt.length=n2∧sq.length=n3):=hid ⟨e1,e2,e3⟩
  have HZN:Hid (n1≤8∧n2≤300∧n3≤8):=hid (by have h8:pa.length≤8∧pt.length≤300∧sq.length≤8:=HZ8.o;omega)
  clear e1 e2 e3
  have c50:=hce 0 (by decide)
  have c51:=hce 1 (by decide)
  have c52:=hce 2 (by decide)
  have c53:=hce 3 (by decide)
  have c54:=hce 4 (by decide)
  have c55:=hce 5 (by decide)
  have c56:=hce 6 (by decide)
  have c57:=hce 7 (by decide)
  have c58:=hce 8 (by decide)
  have c59:=hce 9 (by decide)
  have c60:=hce 10 (by decide)
  have c61:=hce 11 (by decide)
  have c62:=hce 12 (by decide)
  have c63:=hce 13 (by decide)
  simp only [List.getElem?_cons_zero,List.getElem?_cons_succ,Nat.add_zero] at c50 c51 c52 c53 c54 c55 c56 c57 c58 c59 c60 c61 c62 c63
  clear hce
  go_upto_region 5 with fail
  clear c50 c51 c52 c53 c54 c55 c56 c57 c58 c59 c60 c61 c62 c63
  refine wp_over (fun V=>Hid (V.heap[wr.heap.size]? =some (.cells #[.int .i64 hol,.int .i64 vlt,.string str,.int .i64 ix,.int .i64 sz,.int .i64 day,.int .i64 ser,.int .i64 cnt,.int .i64 pl,.string root,.slice ap n1 c1,.int .i64 si,.slice aq n2 c2,.slice ar n3 c3] 47 (0,0)))∧Hid (Below wr.heap.size wr V)) ⟨heap_alloc_new _ _,(Below.refl _ _).alloc (Nat.le_refl _) _⟩ ?_
  rintro V ⟨HVG,HVB⟩
  obtain ⟨A,hA⟩:=ex_eq wr.heap.size
  have HAN:Hid (wr.heap.size=A):=hid hA
  rw [hA] at HVG ⊢
  clear hA
  obtain ⟨q0,q1,q2,q3,q4,q5,q6,q7,q8,q9,q10,q11,q12,q13⟩:=row14 HVG.o
  have HXV:=hid (HXO.o.later HVB.o)
  have HCL:=hid (cloneR_any hol vlt str ix sz day ser cnt pl root ap n1 c1 si aq n2 c2 ar n3 c3 pa pt sq V HLN.o.1 HLN.o.2.1 HLN.o.2.2 (by have:=HZN.o;omega) (by have:=HZN.o;omega) (by have:=HZN.o;omega) HXV.o.s1 HXV.o.s2 HXV.o.s3)
  obtain ⟨ys,hy1,hy2⟩:=HYS.o
  have HY1:=hid hy1
  have HY2:=hid hy2
  clear hy1 hy2
  obtain ⟨v0,hv0⟩: ∃v0,v0=u5:=⟨_,rfl⟩
  have HSRC:Hid (∀(a6:Option Addr) (d6:Nat) (a7:Option Addr) (d7:Nat) (a8:Option Addr) (d8:Nat) (q:Nat) (V:World),V.heap[q]? =some (.cells #[.int .i64 hol,.int .i64 vlt,.string str,.int .i64 ix,.int .i64 sz,.int .i64 day,.int .i64 ser,.int .i64 cnt,.int .i64 pl,.string root,.slice a6 n1 d6,.int .i64 si,.slice a7 n2 d7,.slice a8 n3 d8] 47 (0,0))→ ∀j u,(⟨⟨hol,vlt,str,ix,sz,day,ser,cnt,pl,root,pa,si,pt,sq⟩,a6,d6,a7,d7,a8,d8⟩:RcV).cells[j]? =some u→V.cell? ((⟨q,0,none⟩:Addr).add j)=some u):=hid (fun a6 d6 a7 d7 a8 d8 q V hq j u hu=>by
   have l:=HLN.o
   obtain ⟨rfl,rfl,rfl⟩:=l
   rw [add_none,Nat.zero_add]
   exact (cell_of_row _ _ _ _ _ _ hq).trans (by rw [← hu];simp [RcV.cells]))
  go_wp2_with (first
   | (go_at_call 134
      (with_reducible refine HCL.o.mono ?_)
      rintro e w4 ⟨a6,d6,a7,d7,a8,d8,rfl,hb6,hb7,hb8,hg6,hg7,hg8,h4⟩
      have HCK:=hid (clone_ok (hol:=hol) (vlt:=vlt) (str:=str) (ix:=ix) (sz:=sz) (day:=day) (ser:=ser) (cnt:=cnt) (pl:=pl) (root:=root) (si:=si) HLN.o.1 HLN.o.2.1 HLN.o.2.2 (by have:=HZN.o;omega) (by have:=HZN.o;omega) (by have:=HZN.o;omega) (d6:=d6) (d7:=d7) (d8:=d8) hb6 hb7 hb8 hg6 hg7 hg8)
      have H4:=hid h4
      have HW4:Hid (Below wr.heap.size wr w4):=hid (HVB.o.trans (h4.mono HVB.o.size))
      clear hb6 hb7 hb8 hg6 hg7 hg8 h4 q0 q1 q2 q3 q4 q5 q6 q7 q8 q9 q10 q11 q12 q13)
   | (at_builtin
      refine app_rc rfl _ _ rfl N u5 k ys (by rfl) (own_later HY1.o.1 (HW4.o.alloc HW4.o.size _)) (by have:=HBE.o.size;have:=HW4.o.size;have:=HN.o;rw [World.size_alloc];omega) (by omega) (⟨⟨hol,vlt,str,ix,sz,day,ser,cnt,pl,root,pa,si,pt,sq⟩,a6,d6,a7,d7,a8,d8⟩:RcV) ⟨w4.heap.size,0,none⟩ 1 (by rfl) (HSRC.o _ _ _ _ _ _ _ _ (heap_alloc_new _ _)) ?_
      intro bl cap w6 h1 h2 h3
      have H1:=hid h1
      have H2:=hid h2
      have H3:=hid h3
      clear h1 h2 h3))
  have HA4:Hid (Below w4.heap.size w4 (w4.alloc (.cells #[.int .i64 hol,.int .i64 vlt,.string str,.int .i64 ix,.int .i64 sz,.int .i64 day,.int .i64 ser,.int .i64 cnt,.int .i64 pl,.string root,.slice a6 n1 d6,.int .i64 si,.slice a7 n2 d7,.slice a8 n3 d8] 47))):=hid ((Below.refl _ _).alloc (Nat.le_refl _) _)
  have HO5:=hid ((HY1.o.later HW4.o).later HA4.o)
  have HON:=hid (HO5.o.snoc (x:=(⟨⟨hol,vlt,str,ix,sz,day,ser,cnt,pl,root,pa,si,pt,sq⟩,a6,d6,a7,d7,a8,d8⟩:RcV)) (HCK.o.1.later HA4.o) (fun q hq=>by have:=HCK.o.2 q hq;have:=HBE.o.size;have:=HVB.o.size;have:=HN.o;omega) (fun g hg hq=>by
   have h1:=own_lt HY1.o.1 hg
   have h2:=HCK.o.2 g hq
   have:=HVB.o.size
   omega) H1.o H2.o H3.o)
  have HBN:Hid (Below N w w6):=hid (by
   have h5:Below N wr (w4.alloc (.cells #[.int .i64 hol,.int .i64 vlt,.string str,.int .i64 ix,.int .i64 sz,.int .i64 day,.int .i64 ser,.int .i64 cnt,.int .i64 pl,.string root,.slice a6 n1 d6,.int .i64 si,.slice a7 n2 d7,.slice a8 n3 d8] 47)):=(HW4.o.mono (by have:=HBE.o.size;have:=HN.o;omega)).trans (HA4.o.mono (by have:=HBE.o.size;have:=HW4.o.size;have:=HN.o;omega))
   refine HBE.o.trans (h5.trans ((Chg.of_grown (M:=fun q _=>(u5:Value).ownBlock=some q) H2.o (fun k i e=>e)).below (by have:=h5.size;have:=HBE.o.size;have:=HN.o;omega) (fun q i hq e=> ?_)))
   have:=own_lt HY1.o.1 e
   omega)
  go_roundw
  case rel=>exact ⟨k+1,hlt,by go_num,hid ⟨ys++[(⟨⟨hol,vlt,str,ix,sz,day,ser,cnt,pl,root,pa,si,pt,sq⟩,a6,d6,a7,d7,a8,d8⟩:RcV)],HON.o,by rw [List.map_append,HY2.o,HXR.o];rfl⟩,HBN⟩
  case measure=>simp [intOf];omega
end Go.Proofs.YtndlihclgdkpaaaGreatDoor
namespace Go.Proofs.YtndlihclgdkpaaaGreatDoor
open Go.RowKit
open Kit (Chg)
open Sha (v)
open Go.Proofs.YtndlihclgdkpaaaGreatDoor.One

def intV (zs:List Int):List Value:=zs.map fun z=> .int .i64 z
theorem intV_rep (L:Nat):natV (List.replicate L 0)=intV (List.replicate L 0):=by
 unfold natV intV
 rw [List.map_replicate,List.map_replicate]
 rfl
theorem intV_set (zs:List Int) (k:Nat) (v:Int):(intV zs).toArray.setIfInBounds k (.int .i64 v)=(intV (zs.set k v)).toArray:=by
 unfold intV
 rw [List.setIfInBounds_toArray,List.map_set]
theorem intV_cell {w:World} {b k:Nat} {zs:List Int} {f:Nat × Nat} (h:w.heap[b]? =some (.cells (intV zs).toArray 3 f)) (hk:k<zs.length):w.cell? ⟨b,k,none⟩=some (.int .i64 zs[k]):=(cell_of_row _ _ _ _ _ _ h).trans (by
 unfold intV
 simp [hk])
theorem carB_len (m:List Rc) (s:ByteArray) (n:Nat):(carB m s n).length=n:=by simp [carB]
def carV (m:List Rc) (s:ByteArray) (k:Nat):Int:=match curB m ⟨s,(k:Int)⟩ with | some r=>r.hol | none=> -1
theorem carB_succ (m:List Rc) (s:ByteArray) (k:Nat):carB m s (k+1)=carB m s k++[carV m s k]:=by
 unfold carB
 rw [List.range_succ,List.map_append]
 rfl
theorem set_nextI {vs:List Int} {k L:Nat} (z y:Int) (hv:vs.length=k) (hk:k<L):(vs++List.replicate (L - k) z).set k y=(vs++[y])++List.replicate (L - (k+1)) z:=by
 subst hv
 rw [List.set_append_right _ _ (Nat.le_refl _),Nat.sub_self,show L - vs.length=(L - (vs.length+1))+1 by omega,List.replicate_succ,List.set_cons_zero]
 simp
theorem carried_bad (bk:Nat) (s:ByteArray) (n:Int) (hn: ¬(1≤n∧n≤16)) (w:World):Calls Tryz.prog 46 #[.pointer (some ⟨bk,0,none⟩),.string s,.int .i64 n] w fun e w'=>e= .returned (.tuple #[.slice none 0 0,.int .i64 1])∧w'=w:=by
 by_cases h1:n<1
 ·clear hn
  go_enter Tryz.func46,Tryz.ntmps46
  go_wp2_with fail
  go_ret2
  exact ⟨rfl,rfl⟩
 ·have h2:(16:Int)<n:=by omega
  clear hn
  go_enter Tryz.func46,Tryz.ntmps46
  go_wp2_with fail
  go_ret2
  exact ⟨rfl,rfl⟩
theorem carried_ok (O:Nat→Prop) (bk:Nat) (m:List Rc) (c:Nat) (hc:c≤100000) (s:ByteArray) (hs:s.size≤maxLen) (n:Nat) (hn1:1≤n) (hn:n≤16) (w:World) (hB:BookAt w O bk m c):Calls Tryz.prog 46 #[.pointer (some ⟨bk,0,none⟩),.string s,.int .i64 (n:Int)] w fun e w'=> ∃bo,e= .returned (.tuple #[.slice (some ⟨bo,0,none⟩) n n,.int .i64 0])∧w.heap.size≤bo∧w'.heap[bo]? =some (.cells (intV (carB m s n)).toArray 3 (0,0))∧Below w.heap.size w w':=by
 have HBK:=hid hB
 have HKS:=hid hs
 have hmk:=fun W=>mk_ints n (by omega) W
 have hn3: ¬(n:Int)<1:=by omega
 have hn4: ¬(16:Int)<(n:Int):=by omega
 clear hB hs
 go_enter Tryz.func46,Tryz.ntmps46
 go_upto_region 6 with fail
 clear hmk
 refine wp_over (fun V=>Hid (V.heap[w.heap.size]? =some (.cells (intV (List.replicate n 0)).toArray 3 (0,0)))∧Hid (Below w.heap.size w V)) ⟨by rw [← intV_rep];exact heap_alloc_new _ _,(Below.refl _ _).alloc (Nat.le_refl _) _⟩ ?_
 rintro W ⟨HG,HB⟩
 obtain ⟨bo,hbo⟩:=ex_eq w.heap.size
 have HBO:=hid hbo
 rw [hbo] at HG HB ⊢
 clear hbo
 go_loopw [25] (fun z wr=> ∃k:Nat,k≤n∧z= .int .i64 (k:Int)∧Hid (wr.heap[bo]? =some (.cells (intV (carB m s k++List.replicate (n - k) 0)).toArray 3 (0,0)))∧Hid (Below bo w wr)) (fun z _=>n - (intOf z).toNat)
 case atStart=>exact ⟨0,Nat.zero_le _,rfl,HG,HB⟩
 case round=>
  obtain ⟨k,hk,rfl,HR,HBE⟩:=hrel
  by_cases hlt:k<n
  rotate_left
  ·have hki: ¬(k:Int)<(n:Int):=by omega
   have hke:k=n:=by omega
   have HRE:=HR.o
   rw [hke,Nat.sub_self,List.replicate_zero,List.append_nil] at HRE
   have HRF:=hid HRE
   clear HRE
   go_wp2_with fail
   go_ret2
   exact ⟨bo,rfl,by rw [HBO.o];exact Nat.le_refl _,HRF.o,by rw [HBO.o];exact HBE.o⟩
  have hki:(k:Int)<(n:Int):=by omega
  have HLR:Hid (k<(carB m s k++List.replicate (n - k) (0:Int)).length):=hid (by rw [List.length_append,carB_len,List.length_replicate];omega)
  have c0:=intV_cell HR.o HLR.o
  have f0: ∀i,wr.frozen? ⟨bo,i,none⟩=false:=fun i=>frozen_of_row _ _ _ _ _ HR.o
  go_upto_region 9 with fail
  clear c0 f0
  refine wp_over (fun V=>Hid (V.heap[bo]? =some (.cells (intV ((carB m s k++[-1])++List.replicate (n - (k+1)) 0)).toArray 3 (0,0)))∧Hid (Below bo w V)) ?_ ?_
  ·have h:=heap_setCell_same wr bo k _ 3 (.int .i64 (-1)) HR.o
   rw [intV_set,set_nextI _ _ (carB_len m s k) hlt] at h
   exact ⟨h,HBE.o.setCell (p:=⟨bo,k,none⟩) (Nat.le_refl bo) _⟩
  rintro V ⟨HV,HVB⟩
  have HVW:Hid (Below w.heap.size w V):=hid (by rw [HBO.o];exact HVB.o)
  have HWF:Hid ((Lit.int .i64 (k:Int)).wf=true):=hid (wf64 (by omega) (by omega))
  have HBV:Hid (bo<V.heap.size):=hid (gS HV.o).1
  cases hcu:curB m ⟨s,(k:Int)⟩ with
  | none=>
    have HCV:Hid (carV m s k= -1):=hid (by unfold carV;rw [hcu])
    have HCU:=hid (current_none O bk m c hc s (k:Int) HKS.o HWF.o hcu V (HBK.o.later HVW.o))
    clear hcu
    go_wp2_with (first
     | (go_at_call 137
        (with_reducible refine HCU.o.mono ?_)
        rintro e w2 ⟨rfl,h2⟩
        have H2:=hid h2
        clear h2))
    go_roundw
    case rel=>
     refine ⟨k+1,hlt,by go_num,hid ?_,hid ?_⟩
     ·rw [carB_succ,HCV.o]
      exact (Below.heap_alloc _ _ _ (by have:=H2.o.size;have:=HBV.o;omega)).trans ((H2.o.block bo HBV.o).trans HV.o)
     ·exact (HVB.o.trans (H2.o.mono (by have:=HBV.o;omega))).alloc (by have:=H2.o.size;have:=HBV.o;omega) _
    case measure=>simp [intOf];omega
  | some r=>
    have HCV:Hid (carV m s k=r.hol):=hid (by unfold carV;rw [hcu])
    obtain ⟨hol,vlt,str,ix,sz,day,ser,cnt,pl,root,pa,si,pt,sq⟩:=r
    have HCU:=hid (current_some O bk m c hc s (k:Int) HKS.o HWF.o hol vlt str ix sz day ser cnt pl root si pa pt sq _ _ _ rfl rfl rfl hcu V (HBK.o.later HVW.o))
    clear hcu
    go_upto_region 11 with (first
     | (go_at_call 137
        (with_reducible refine HCU.o.mono ?_)
        rintro e w2 ⟨ap,c1,aq,c2,ar,c3,rfl,_,_,h2⟩
        have H2:=hid h2
        clear h2))
    refine wp_over (fun X=>Hid (X.heap[w2.heap.size]? =some (.cells #[.int .i64 hol,.int .i64 vlt,.string str,.int .i64 ix,.int .i64 sz,.int .i64 day,.int .i64 ser,.int .i64 cnt,.int .i64 pl,.string root,.slice ap pa.length c1,.int .i64 si,.slice aq pt.length c2,.slice ar sq.length c3] 47 (0,0)))∧Hid (Below w2.heap.size w2 X)) ⟨heap_alloc_new _ _,(Below.refl _ _).alloc (Nat.le_refl _) _⟩ ?_
    rintro X ⟨HXG,HXB⟩
    obtain ⟨q0,_⟩:=row14 HXG.o
    obtain ⟨A,hA⟩:=ex_eq w2.heap.size
    have HA:=hid hA
    rw [hA] at HXG q0 ⊢
    clear hA
    have HXV:Hid (X.heap[bo]? =some (.cells (intV ((carB m s k++[-1])++List.replicate (n - (k+1)) 0)).toArray 3 (0,0))):=hid ((HXB.o.block bo (by have:=H2.o.size;have:=HBV.o;omega)).trans ((H2.o.block bo HBV.o).trans HV.o))
    have HLX:Hid (k<((carB m s k++[-1])++List.replicate (n - (k+1)) (0:Int)).length):=hid (by rw [List.length_append,List.length_append,carB_len];simp;omega)
    have c0:=intV_cell HXV.o HLX.o
    have f0: ∀i,X.frozen? ⟨bo,i,none⟩=false:=fun i=>frozen_of_row _ _ _ _ _ HXV.o
    go_wp2_with fail
    go_roundw
    case rel=>
     refine ⟨k+1,hlt,by go_num,hid ?_,hid ?_⟩
     ·have h:=heap_setCell_same X bo k _ 3 (.int .i64 hol) HXV.o
      rw [intV_set] at h
      rw [carB_succ,HCV.o]
      have e:((carB m s k++[-1])++List.replicate (n - (k+1)) (0:Int)).set k hol=(carB m s k++[hol])++List.replicate (n - (k+1)) 0:=by
       rw [List.set_append_left _ _ (by rw [List.length_append,carB_len];simp),List.set_append_right _ _ (by rw [carB_len];exact Nat.le_refl _),carB_len,Nat.sub_self]
       rfl
      rw [e] at h
      exact h
     ·exact (HVB.o.trans ((H2.o.mono (by have:=HBV.o;omega)).trans (HXB.o.mono (by have:=H2.o.size;have:=HBV.o;omega)))).setCell (p:=⟨bo,k,none⟩) (Nat.le_refl bo) _
    case measure=>simp [intOf];omega
end Go.Proofs.YtndlihclgdkpaaaGreatDoor
namespace Go.Proofs.YtndlihclgdkpaaaGreatDoor
open Go.RowKit
open Go.Maps
open Kit (Chg)
open Sha (v)
open Go.Proofs.YtndlihclgdkpaaaGreatDoor.One

theorem OwnRc.base {w:World} {B B' n:Nat} {v:Value} {ys:List RcV} (h:OwnRc w B v n ys) (hb:B'≤B):OwnRc w B' v n ys:=⟨ownsRow_base h.1 hb,h.2.1,fun y hy=>⟨(h.2.2 y hy).1,fun q hq=>Nat.le_trans hb ((h.2.2 y hy).2.1 q hq),(h.2.2 y hy).2.2⟩⟩
theorem sortRc_none (fv:Value) (w:World):Calls Tryz.prog 165 #[.slice none 0 0,fv] w fun e w'=>e= .returned (.tuple #[])∧w'=w:=AnyF.slices_SortFunc_none lay_sortRc none 0 fv w
theorem OwnRc.keepC {w w':World} {B n:Nat} {v:Value} {ys:List RcV} {M:Nat→Nat→Prop} (h:OwnRc w B v n ys) (hc:Chg M w w') (hm: ∀q,B≤q→ ∀i,¬M q i):OwnRc w' B v n ys:=by
 refine ⟨⟨h.1.1,?_⟩,h.2.1,fun y hy=>⟨(h.2.2 y hy).1.keepB hc (fun q hq=>hm q ((h.2.2 y hy).2.1 q hq)),(h.2.2 y hy).2⟩⟩
 rcases h.1.2 with hn | ⟨g,cap,cur,e,h1,h2,h3⟩
 ·exact .inl hn
 ·exact .inr ⟨g,cap,cur,e,h1,(hc.other g (gS h2).1 (hm g h1)).trans h2,h3⟩
theorem seen_end2 {m:List Rc} (hg:GoodB m) {h:Int} {P:Pc→Prop} {L:List Rc} (hs:Seen m h P L) (hP: ∀x ∈ m,¬P x.pc):L.Perm (curs m h):=(List.perm_ext_iff_of_nodup hs.1 (curs_nodup hg h)).2 fun x=>by rw [hs.2];exact ⟨fun h=>h.1,fun h=>⟨h,hP _ (List.mem_filter.1 h).1⟩⟩
theorem seen_len {m:List Rc} {h:Int} {P:Pc→Prop} {L:List Rc} (hs:Seen m h P L):L.length≤m.length:=hs.1.length_le_of_subset (fun x hx=>(List.mem_filter.1 ((hs.2 x).1 hx).1).1)
theorem GoodB.key {m:List Rc} (h:GoodB m) {x:Rc} (hx:x ∈ m): ∃l,keyOf Tryz.prog 42 (pieceV x.str x.ix)=some l:=pieceKey (by have:=(h.v x hx).gd.st;unfold maxLen;omega) (wf64 (by have:=(h.v x hx).gd.i0;omega) (by have:=(h.v x hx).gd.i1;omega))
def toCome (lf:Value→Prop) (p:Pc):Prop:=lf (pieceV p.s p.i)
theorem toCome_step (lf:Value→Prop) (p:Pc):(fun q=>toCome (fun x=>lf x∧x≠pieceV p.s p.i) q)=fun q=>toCome lf q∧q≠p:=by
 funext q
 unfold toCome
 refine propext ⟨fun h=>⟨h.1,fun e=>h.2 (by rw [e])⟩,fun h=>⟨h.1,fun e=>h.2 ?_⟩⟩
 obtain ⟨e1,e2⟩:=pieceV_inj e
 cases q;cases p
 simp only at e1 e2
 rw [e1,e2]
theorem BookR.come {w:World} {O:Nat→Prop} {bk b1 b2:Nat} {R:Pc→Option BRow} {m:List Rc} {c:Nat} (h:BookR w O bk b1 b2 R m c) {x:Rc} (hx:x ∈ m):((listF R) (pieceV x.str x.ix)).isSome=true:=by
 rw [listF_piece]
 cases hR:R ⟨x.str,x.ix⟩ with
 | some r=>rfl
 | none=>
   have h1:=h.no _ hR
   have h2:x ∈ ofB m ⟨x.str,x.ix⟩:=List.mem_filter.2 ⟨hx,decide_eq_true rfl⟩
   rw [h1] at h2
   simp at h2
theorem BookR.cur {w:World} {O:Nat→Prop} {bk b1 b2:Nat} {R:Pc→Option BRow} {m:List Rc} {c:Nat} (h:BookR w O bk b1 b2 R m c) {s:ByteArray} {i:Int} {v:Value} (hv:listF R (pieceV s i)=some v): ∃r,curB m ⟨s,i⟩=some r:=by
 rw [listF_piece] at hv
 cases hR:R ⟨s,i⟩ with
 | none=>rw [hR] at hv;cases hv
 | some r=>
   obtain ⟨_,h2,h3⟩:=h.row _ _ hR
   obtain ⟨k,hk⟩: ∃k,r.xs.length=k+1:=⟨r.xs.length - 1,by have:=List.length_pos_iff.2 h3;omega⟩
   exact ⟨_,curB_rows h2 hk⟩
theorem holder_any (O:Nat→Prop) (bk:Nat) (m:List Rc) (c:Nat) (hc:c≤100000) (h:Int) (w:World) (hB:BookAt w O bk m c):Calls Tryz.prog 75 #[.pointer (some ⟨bk,0,none⟩),.int .i64 h] w fun e w'=> ∃v,e= .returned v∧ ∃n ys,OwnRc w' w.heap.size v n ys∧ys.map RcV.r=holdB m h∧Below w.heap.size w w':=by
 obtain ⟨b1,b2,R,hB⟩:=hB
 have HBK:=hid hB
 obtain ⟨w0,hrun0,⟨cnt0,hr0⟩,hb0,hs0⟩:=hB.m1.range (t:= 195) (e:= 32) pieceKeyed Tryz.underlying195
 have hc0:=hB.cells.1
 have HR0:=hid hr0
 have HB0:=hid hb0
 have HS0:=hid hs0
 clear hr0 hb0 hs0 hB
 go_enter Tryz.func75,Tryz.ntmps75
 go_upto_region 4 with fail
 clear hrun0 hc0
 obtain ⟨rr,hrr⟩:=ex_eq w.heap.size
 have HRR:=hid hrr
 rw [hrr] at HR0 HS0 ⊢
 clear hrr
 have HST:Hid (BookR w0 O bk b1 b2 R m c):=hid (HBK.o.later HB0.o)
 go_loopw [5] (fun v wr=> ∃(lf:Value→Prop) (cnt:Nat),Hid (RangeV Tryz.prog 42 wr b1 rr c (listF R) lf cnt)∧Hid (∃n ys,OwnRc wr (rr+1) v n ys∧Seen m h (toCome lf) (ys.map RcV.r))∧Hid (Below rr w wr)∧Hid (rr+1≤wr.heap.size)) (fun _ wr=>wr.rangeLeft b1 rr)
 case atStart=>exact ⟨_,cnt0,HR0,hid ⟨0,[],OwnRc.nil _ _,seen_start (fun x hx=>HBK.o.come hx)⟩,hid (HB0.o.mono (Nat.le_of_eq HRR.o.symm)),hid (Nat.le_of_eq HS0.o.symm)⟩
 case round=>
  obtain ⟨lf,cnt,HRV,HYS,HBE,HRL⟩:=hrel
  have HWB:Hid (∀V,Below rr w V→Below w.heap.size w V):=hid (fun V h=>by rw [HRR.o];exact h)
  have HBR:=hid (HBK.o.later (HWB.o _ HBE.o))
  rcases HRV.o.next pieceKeyed 0 with ⟨hd,hrun⟩ | ⟨key,kl,v0,w1,cnt1,hk,hlf,hfv,hrun,hr1,hlt,hgr,hsz,hen⟩
  ·obtain ⟨n,ys,hy1,hy2⟩:=HYS.o
   have HY1:=hid hy1
   have HPM:Hid ((ys.map RcV.r).Perm (curs m h)):=hid (seen_end2 HBK.o.good hy2 (fun x hx=>by
    obtain ⟨l,hl⟩:=HBK.o.good.key hx
    exact hd _ l hl))
   have HNC:Hid (n≤c):=hid (by have h1:=seen_len hy2;rw [List.length_map,hy1.2.1] at h1;have:=HBK.o.len;omega)
   clear hy1 hy2 hd
   go_upto_region 9 with fail
   clear hrun
   rcases own_cases HY1.o.1 with ⟨hv,hn⟩ | ⟨bl,cap,hv⟩
   ·have HV:=hid hv
    have hso:=sortRc_none (.func (.func 166) #[] #[]) wr
    subst hv
    go_wp2_with (first
     | (go_at_call 165
        (with_reducible refine hso.mono ?_)
        rintro e w2 ⟨rfl,rfl⟩))
    go_ret
    have hys:ys=[]:=List.eq_nil_of_length_eq_zero (by rw [HY1.o.2.1];exact hn)
    refine ⟨_,rfl,n,ys,HY1.o.base (by have:=HRR.o;omega),holdB_eq HBK.o.good HPM.o (by rw [hys];exact .nil),HWB.o _ HBE.o⟩
   ·have hso:=sortRc_any _ ys HY1.o.2.1 (by have:=HNC.o;omega) (by
       have hp:=curs_pcs HBK.o.good h
       have hq:=(HPM.o.symm.pairwise_iff (fun {a b} (e:a.pc≠b.pc)=>Ne.symm e)).1 hp
       rw [List.pairwise_map] at hq
       exact hq) wr HY1.o.1 ⟨bl,cap,hv⟩
    have HV:=hid hv
    subst hv
    go_wp2_with (first
     | (go_at_call 165
        (with_reducible refine hso.mono ?_)
        rintro e w2 ⟨rfl,zs,hz1,hz2,hz3,hz4⟩
        have HZ1:=hid hz1
        have HZ2:=hid hz2
        have HZ3:=hid hz3
        have HZ4:=hid hz4
        clear hz1 hz2 hz3 hz4 hso))
    go_ret
    have hlow:rr+1≤bl:=(own_lt HY1.o.1 rfl).1
    refine ⟨_,rfl,n,zs,?_,holdB_eq HBK.o.good ((HZ1.o.map RcV.r).trans HPM.o) (by rw [List.pairwise_map];exact HZ2.o),HWB.o _ (HBE.o.trans (HZ4.o.below (by have:=HBE.o.size;have:=HRL.o;omega) (fun q i hq e=>by injection e with e;have e:q=bl:=e;omega)))⟩
    refine OwnRc.base (B:=rr+1) ⟨HZ3.o,by rw [HZ1.o.length_eq];exact HY1.o.2.1,fun y hy=> ?_⟩ (by have:=HRR.o;omega)
    obtain ⟨a1,a2,a3⟩:=HY1.o.2.2 y (HZ1.o.mem_iff.1 hy)
    exact ⟨a1.keepB HZ4.o (fun q hq i e=>a3 q e.symm hq),a2,a3⟩
  obtain ⟨s,i,rfl,hks,hki⟩:=pieceInv hk
  have HKS:=hid hks
  have HKI:=hid hki
  have HLF:=hid hlf
  have HR1:=hid hr1
  have HLT:=hid hlt
  have HC1:Hid (Chg (fun q _=>q=rr) wr w1):=hid (Chg.of_grown hgr (fun k i e=>by injection e with e;exact e.symm))
  have HS1:=hid hsz
  have HBR1:=hid (HBR.o.keep HC1.o (fun q hq i e=>by have:=HBK.o.lt q hq;have:=HRR.o;omega))
  obtain ⟨r,hr⟩:=HBR1.o.cur hfv
  unfold pieceV at hrun hen
  clear hks hki hlf hr1 hlt hgr hsz hk hfv
  have HB1:Hid (Below rr w w1):=hid (HBE.o.trans (HC1.o.below (by have:=HBE.o.size;have:=HRL.o;omega) (fun q i hq e=>by omega)))
  go_upto_region 6 with fail
  clear hrun hen
  refine wp_over (fun V=>Hid (V.heap[w1.heap.size]? =some (.cells #[.string s,.int .i64 i] 42 (0,0)))∧Hid (Below w1.heap.size w1 V)) ⟨heap_alloc_new _ _,(Below.refl _ _).alloc (Nat.le_refl _) _⟩ ?_
  rintro V ⟨HVG,HVB⟩
  obtain ⟨A,hA⟩:=ex_eq w1.heap.size
  have HAA:Hid (w1.heap.size=A∧rr+1≤A):=hid ⟨hA,by have:=HS1.o;have:=HRL.o;omega⟩
  rw [hA] at HVG ⊢
  clear hA
  have p0:V.cell? ⟨A,0,none⟩=some (.string s):=cr HVG.o
  have p1:V.cell? ⟨A,1,none⟩=some (.int .i64 i):=cr HVG.o
  have HBV:=hid (HBR1.o.later HVB.o)
  have HZ8:=hid (curB_sizes HBK.o.good hr)
  have HCR:=hid hr
  obtain ⟨hol,vlt,str,ix,sz,day,ser,cnt',pl,root,pa,si,pt,sq⟩:=r
  obtain ⟨n1,e1⟩:=ex_eq pa.length
  obtain ⟨n2,e2⟩:=ex_eq pt.length
  obtain ⟨n3,e3⟩:=ex_eq sq.length
  have HLN:Hid (pa.length=n1∧pt.length=n2∧sq.length=n3):=hid ⟨e1,e2,e3⟩
  have HZN:Hid (n1≤8∧n2≤300∧n3≤8):=hid (by have h8:pa.length≤8∧pt.length≤300∧sq.length≤8:=HZ8.o;omega)
  have HCU:=hid (current_some O bk m c hc s i HKS.o HKI.o hol vlt str ix sz day ser cnt' pl root si pa pt sq n1 n2 n3 e1 e2 e3 hr V ⟨b1,b2,R,HBV.o⟩)
  clear e1 e2 e3 hr
  go_upto_region 7 with (first
   | (go_at_call 137
      (with_reducible refine HCU.o.mono ?_)
      rintro e w2 ⟨ap,c1,aq,c2,ar,c3,rfl,hok,hbo,h2⟩
      have HOK:=hid hok
      have H2:=hid h2
      clear hok hbo h2 p0 p1))
  refine wp_over (fun X=>Hid (X.heap[w2.heap.size]? =some (.cells #[.int .i64 hol,.int .i64 vlt,.string str,.int .i64 ix,.int .i64 sz,.int .i64 day,.int .i64 ser,.int .i64 cnt',.int .i64 pl,.string root,.slice ap n1 c1,.int .i64 si,.slice aq n2 c2,.slice ar n3 c3] 47 (0,0)))∧Hid (Below w2.heap.size w2 X)) ⟨heap_alloc_new _ _,(Below.refl _ _).alloc (Nat.le_refl _) _⟩ ?_
  rintro X ⟨HXG,HXB⟩
  have HX1:Hid (Below A w1 X):=hid (by
   have h1:=HVB.o
   have h2:Below A w1 w2:=(h1.mono (Nat.le_of_eq HAA.o.1.symm)).trans (H2.o.mono (by have:=h1.size;have:=HAA.o;omega))
   exact h2.trans (HXB.o.mono (by have:=h2.size;have:=HAA.o;omega)))
  have HXO:=hid (HOK.o.later HXB.o)
  obtain ⟨D,hD⟩:=ex_eq w2.heap.size
  rw [hD] at HXG ⊢
  clear hD
  obtain ⟨q0,q1,q2,q3,q4,q5,q6,q7,q8,q9,q10,q11,q12,q13⟩:=row14 HXG.o
  obtain ⟨n,ys,hy1,hy2⟩:=HYS.o
  have HNC:Hid (n≤c):=hid (by have h1:=seen_len hy2;rw [List.length_map,hy1.2.1] at h1;have:=HBK.o.len;omega)
  have HY1:Hid (OwnRc X (rr+1) u5 n ys):=hid ((hy1.keepC HC1.o (fun q hq i e=>by omega)).later (HX1.o.mono (Nat.le_of_eq HAA.o.1)))
  have HY2:=hid hy2
  clear hy1 hy2
  have HRX:Hid (RangeV Tryz.prog 42 X b1 rr c (listF R) (fun x=>lf x∧x≠pieceV s i) cnt1):=hid (HR1.o.later (HX1.o.mono (Nat.le_of_eq HAA.o.1)))
  have HWX:Hid (Below rr w X):=hid (HB1.o.trans (HX1.o.mono (by have:=HAA.o;omega)))
  by_cases hh:hol=h
  rotate_left
  ·have hb:(hol==h)=false:=by rw [beq_eq_false_iff_ne];exact hh
   have HSN:Hid (Seen m h (toCome (fun x=>lf x∧x≠pieceV s i)) (ys.map RcV.r)):=hid (by
    have h1:=seen_miss HBK.o.good HY2.o (p:=⟨s,i⟩) (fun x hx=>by
     rw [HCR.o] at hx
     cases hx
     exact hh)
    rw [← toCome_step] at h1
    exact h1)
   clear hh
   go_wp2_with fail
   go_roundw
   case rel=>exact ⟨_,cnt1,HRX,hid ⟨n,ys,HY1.o,HSN.o⟩,HWX,hid (by have:=HX1.o.size;have:=HAA.o;omega)⟩
   case measure=>rw [HRX.o.left_eq,HRV.o.left_eq];exact HLT.o
  have hb:(hol==h)=true:=by rw [beq_iff_eq];exact hh
  have HSN:Hid (∀x:RcV,x.r=⟨hol,vlt,str,ix,sz,day,ser,cnt',pl,root,pa,si,pt,sq⟩→Seen m h (toCome (fun x=>lf x∧x≠pieceV s i)) ((ys++[x]).map RcV.r)):=hid (fun x hx=>by
   have h1:=seen_hit HBK.o.good HY2.o (p:=⟨s,i⟩) HLF.o HCR.o hh
   rw [← toCome_step] at h1
   rw [List.map_append,List.map_cons,List.map_nil,hx]
   exact h1)
  clear hh
  go_upto_region 8 with fail
  have HCL:=hid (cloneR_any hol vlt str ix sz day ser cnt' pl root ap n1 c1 si aq n2 c2 ar n3 c3 pa pt sq X HLN.o.1 HLN.o.2.1 HLN.o.2.2 (by have:=HZN.o;omega) (by have:=HZN.o;omega) (by have:=HZN.o;omega) HXO.o.s1 HXO.o.s2 HXO.o.s3)
  have HSRC:Hid (∀(a6:Option Addr) (d6:Nat) (a7:Option Addr) (d7:Nat) (a8:Option Addr) (d8:Nat) (q:Nat) (V:World),V.heap[q]? =some (.cells #[.int .i64 hol,.int .i64 vlt,.string str,.int .i64 ix,.int .i64 sz,.int .i64 day,.int .i64 ser,.int .i64 cnt',.int .i64 pl,.string root,.slice a6 n1 d6,.int .i64 si,.slice a7 n2 d7,.slice a8 n3 d8] 47 (0,0))→ ∀j u,(⟨⟨hol,vlt,str,ix,sz,day,ser,cnt',pl,root,pa,si,pt,sq⟩,a6,d6,a7,d7,a8,d8⟩:RcV).cells[j]? =some u→V.cell? ((⟨q,0,none⟩:Addr).add j)=some u):=hid (fun a6 d6 a7 d7 a8 d8 q V hq j u hu=>by
   have l:=HLN.o
   obtain ⟨rfl,rfl,rfl⟩:=l
   rw [add_none,Nat.zero_add]
   exact (cell_of_row _ _ _ _ _ _ hq).trans (by rw [← hu];simp [RcV.cells]))
  go_wp2_with (first
   | (go_at_call 134
      (with_reducible refine HCL.o.mono ?_)
      rintro e w4 ⟨a6,d6,a7,d7,a8,d8,rfl,hb6,hb7,hb8,hg6,hg7,hg8,h4⟩
      have HCK:=hid (clone_ok (hol:=hol) (vlt:=vlt) (str:=str) (ix:=ix) (sz:=sz) (day:=day) (ser:=ser) (cnt:=cnt') (pl:=pl) (root:=root) (si:=si) HLN.o.1 HLN.o.2.1 HLN.o.2.2 (by have:=HZN.o;omega) (by have:=HZN.o;omega) (by have:=HZN.o;omega) (d6:=d6) (d7:=d7) (d8:=d8) hb6 hb7 hb8 hg6 hg7 hg8)
      have H4:=hid h4
      clear hb6 hb7 hb8 hg6 hg7 hg8 h4 q0 q1 q2 q3 q4 q5 q6 q7 q8 q9 q10 q11 q12 q13)
   | (at_builtin
      refine app_rc rfl _ _ rfl (rr+1) u5 n ys (by rfl) (own_later HY1.o.1 (H4.o.alloc H4.o.size _)) (by have:=HX1.o.size;have:=H4.o.size;have:=HAA.o;rw [World.size_alloc];omega) (by have:=HNC.o;omega) (⟨⟨hol,vlt,str,ix,sz,day,ser,cnt',pl,root,pa,si,pt,sq⟩,a6,d6,a7,d7,a8,d8⟩:RcV) ⟨w4.heap.size,0,none⟩ 1 (by rfl) (HSRC.o _ _ _ _ _ _ _ _ (heap_alloc_new _ _)) ?_
      intro bl cap w6 h1 h2 h3
      have H1:=hid h1
      have H2b:=hid h2
      have H3:=hid h3
      clear h1 h2 h3))
  have HA4:Hid (Below w4.heap.size w4 (w4.alloc (.cells #[.int .i64 hol,.int .i64 vlt,.string str,.int .i64 ix,.int .i64 sz,.int .i64 day,.int .i64 ser,.int .i64 cnt',.int .i64 pl,.string root,.slice a6 n1 d6,.int .i64 si,.slice a7 n2 d7,.slice a8 n3 d8] 47))):=hid ((Below.refl _ _).alloc (Nat.le_refl _) _)
  have HO5:=hid ((HY1.o.later H4.o).later HA4.o)
  have HON:=hid (HO5.o.snoc (x:=(⟨⟨hol,vlt,str,ix,sz,day,ser,cnt',pl,root,pa,si,pt,sq⟩,a6,d6,a7,d7,a8,d8⟩:RcV)) (HCK.o.1.later HA4.o) (fun q hq=>by have:=HCK.o.2 q hq;have:=HX1.o.size;have:=HAA.o;omega) (fun g hg hq=>by
   have h1:=own_lt HY1.o.1 hg
   have h2:=HCK.o.2 g hq
   omega) H1.o H2b.o H3.o)
  have HX6:Hid (Below (rr+1) X w6):=hid (by
   have h5:Below (rr+1) X (w4.alloc (.cells #[.int .i64 hol,.int .i64 vlt,.string str,.int .i64 ix,.int .i64 sz,.int .i64 day,.int .i64 ser,.int .i64 cnt',.int .i64 pl,.string root,.slice a6 n1 d6,.int .i64 si,.slice a7 n2 d7,.slice a8 n3 d8] 47)):=(H4.o.mono (by have:=HX1.o.size;have:=HAA.o;omega)).trans (HA4.o.mono (by have:=HX1.o.size;have:=H4.o.size;have:=HAA.o;omega))
   refine h5.trans ((Chg.of_grown (M:=fun q _=>(u5:Value).ownBlock=some q) H2b.o (fun k i e=>e)).below (by have:=h5.size;have:=HX1.o.size;have:=HAA.o;omega) (fun q i hq e=> ?_))
   have:=own_lt HY1.o.1 e
   omega)
  have HRZ:Hid (RangeV Tryz.prog 42 w6 b1 rr c (listF R) (fun x=>lf x∧x≠pieceV s i) cnt1):=hid (HRX.o.keep (HX6.o.block b1 (by have:=HBK.o.lt b1 HBK.o.o1;have:=HRR.o;omega)) (HX6.o.block rr (by omega)))
  go_roundw
  case rel=>exact ⟨_,cnt1,HRZ,hid ⟨n+1,ys++[(⟨⟨hol,vlt,str,ix,sz,day,ser,cnt',pl,root,pa,si,pt,sq⟩,a6,d6,a7,d7,a8,d8⟩:RcV)],HON.o,HSN.o (⟨⟨hol,vlt,str,ix,sz,day,ser,cnt',pl,root,pa,si,pt,sq⟩,a6,d6,a7,d7,a8,d8⟩:RcV) rfl⟩,hid (HWX.o.trans (HX6.o.mono (Nat.le_succ rr))),hid (by have:=HX1.o.size;have:=HX6.o.size;have:=HAA.o;omega)⟩
  case measure=>rw [HRZ.o.left_eq,HRV.o.left_eq];exact HLT.o
theorem sumV_small {m:List Rc} (hg:GoodB m) {h v:Int} {P:Pc→Prop} {L:List Rc} (hs:Seen m h P L) (hm:m.length≤100000):0≤sumV v L∧sumV v L≤6553600000:=by
 have h1:=sumV_bound (v:=v) (l:=L) (fun x hx=>hg.v x (List.mem_filter.1 ((hs.2 x).1 hx).1).1)
 have h2:=seen_len hs
 omega
theorem bytes_any (O:Nat→Prop) (bk:Nat) (m:List Rc) (c:Nat) (hc:c≤100000) (h v:Int) (w:World) (hB:BookAt w O bk m c):Calls Tryz.prog 51 #[.pointer (some ⟨bk,0,none⟩),.int .i64 h,.int .i64 v] w fun e w'=>e= .returned (.int .i64 (bytesB m h v))∧Below w.heap.size w w':=by
 obtain ⟨b1,b2,R,hB⟩:=hB
 have HBK:=hid hB
 obtain ⟨w0,hrun0,⟨cnt0,hr0⟩,hb0,hs0⟩:=hB.m1.range (t:= 195) (e:= 32) pieceKeyed Tryz.underlying195
 have hc0:=hB.cells.1
 have HR0:=hid hr0
 have HB0:=hid hb0
 have HS0:=hid hs0
 clear hr0 hb0 hs0 hB
 go_enter Tryz.func51,Tryz.ntmps51
 go_upto_region 4 with fail
 clear hrun0 hc0
 obtain ⟨rr,hrr⟩:=ex_eq w.heap.size
 have HRR:=hid hrr
 rw [hrr] at HR0 HS0 ⊢
 clear hrr
 have HST:Hid (BookR w0 O bk b1 b2 R m c):=hid (HBK.o.later HB0.o)
 go_loopw [7] (fun z wr=> ∃(lf:Value→Prop) (cnt:Nat) (t:Int),z= .int .i64 t∧Hid (RangeV Tryz.prog 42 wr b1 rr c (listF R) lf cnt)∧Hid (∃L,t=sumV v L∧Seen m h (toCome lf) L)∧Hid (Below rr w wr)∧Hid (rr+1≤wr.heap.size)) (fun _ wr=>wr.rangeLeft b1 rr)
 case atStart=>exact ⟨_,cnt0,0,rfl,HR0,hid ⟨[],rfl,seen_start (fun x hx=>HBK.o.come hx)⟩,hid (HB0.o.mono (Nat.le_of_eq HRR.o.symm)),hid (Nat.le_of_eq HS0.o.symm)⟩
 case round=>
  obtain ⟨lf,cnt,t,rfl,HRV,HYS,HBE,HRL⟩:=hrel
  have HWB:Hid (∀V,Below rr w V→Below w.heap.size w V):=hid (fun V h=>by rw [HRR.o];exact h)
  have HBR:=hid (HBK.o.later (HWB.o _ HBE.o))
  rcases HRV.o.next pieceKeyed 0 with ⟨hd,hrun⟩ | ⟨key,kl,v0,w1,cnt1,hk,hlf,hfv,hrun,hr1,hlt,hgr,hsz,hen⟩
  ·obtain ⟨L,hy1,hy2⟩:=HYS.o
   have HPM:Hid (t=bytesB m h v):=hid (by
    rw [hy1]
    exact bytesB_eq (seen_end2 HBK.o.good hy2 (fun x hx=>by
     obtain ⟨l,hl⟩:=HBK.o.good.key hx
     exact hd _ l hl)))
   clear hy1 hy2 hd
   go_wp2_with fail
   go_ret
   exact ⟨by rw [HPM.o];rfl,HWB.o _ HBE.o⟩
  obtain ⟨s,i,rfl,hks,hki⟩:=pieceInv hk
  have HKS:=hid hks
  have HKI:=hid hki
  have HLF:=hid hlf
  have HR1:=hid hr1
  have HLT:=hid hlt
  have HC1:Hid (Chg (fun q _=>q=rr) wr w1):=hid (Chg.of_grown hgr (fun k i e=>by injection e with e;exact e.symm))
  have HS1:=hid hsz
  have HBR1:=hid (HBR.o.keep HC1.o (fun q hq i e=>by have:=HBK.o.lt q hq;have:=HRR.o;omega))
  obtain ⟨r,hr⟩:=HBR1.o.cur hfv
  unfold pieceV at hrun hen
  clear hks hki hlf hr1 hlt hgr hsz hk hfv
  have HB1:Hid (Below rr w w1):=hid (HBE.o.trans (HC1.o.below (by have:=HBE.o.size;have:=HRL.o;omega) (fun q i hq e=>by omega)))
  go_upto_region 6 with fail
  clear hrun hen
  refine wp_over (fun V=>Hid (V.heap[w1.heap.size]? =some (.cells #[.string s,.int .i64 i] 42 (0,0)))∧Hid (Below w1.heap.size w1 V)) ⟨heap_alloc_new _ _,(Below.refl _ _).alloc (Nat.le_refl _) _⟩ ?_
  rintro V ⟨HVG,HVB⟩
  obtain ⟨A,hA⟩:=ex_eq w1.heap.size
  have HAA:Hid (w1.heap.size=A∧rr+1≤A):=hid ⟨hA,by have:=HS1.o;have:=HRL.o;omega⟩
  rw [hA] at HVG ⊢
  clear hA
  have p0:V.cell? ⟨A,0,none⟩=some (.string s):=cr HVG.o
  have p1:V.cell? ⟨A,1,none⟩=some (.int .i64 i):=cr HVG.o
  have HBV:=hid (HBR1.o.later HVB.o)
  have HZ8:=hid (curB_sizes HBK.o.good hr)
  have HCR:=hid hr
  obtain ⟨hol,vlt,str,ix,sz,day,ser,cnt',pl,root,pa,si,pt,sq⟩:=r
  obtain ⟨n1,e1⟩:=ex_eq pa.length
  obtain ⟨n2,e2⟩:=ex_eq pt.length
  obtain ⟨n3,e3⟩:=ex_eq sq.length
  have HLN:Hid (pa.length=n1∧pt.length=n2∧sq.length=n3):=hid ⟨e1,e2,e3⟩
  have HZN:Hid (n1≤8∧n2≤300∧n3≤8):=hid (by have h8:pa.length≤8∧pt.length≤300∧sq.length≤8:=HZ8.o;omega)
  have HCU:=hid (current_some O bk m c hc s i HKS.o HKI.o hol vlt str ix sz day ser cnt' pl root si pa pt sq n1 n2 n3 e1 e2 e3 hr V ⟨b1,b2,R,HBV.o⟩)
  clear e1 e2 e3 hr
  go_upto_region 7 with (first
   | (go_at_call 137
      (with_reducible refine HCU.o.mono ?_)
      rintro e w2 ⟨ap,c1,aq,c2,ar,c3,rfl,hok,hbo,h2⟩
      have HOK:=hid hok
      have H2:=hid h2
      clear hok hbo h2 p0 p1))
  refine wp_over (fun X=>Hid (X.heap[w2.heap.size]? =some (.cells #[.int .i64 hol,.int .i64 vlt,.string str,.int .i64 ix,.int .i64 sz,.int .i64 day,.int .i64 ser,.int .i64 cnt',.int .i64 pl,.string root,.slice ap n1 c1,.int .i64 si,.slice aq n2 c2,.slice ar n3 c3] 47 (0,0)))∧Hid (Below w2.heap.size w2 X)) ⟨heap_alloc_new _ _,(Below.refl _ _).alloc (Nat.le_refl _) _⟩ ?_
  rintro X ⟨HXG,HXB⟩
  have HX1:Hid (Below A w1 X):=hid (by
   have h1:=HVB.o
   have h2:Below A w1 w2:=(h1.mono (Nat.le_of_eq HAA.o.1.symm)).trans (H2.o.mono (by have:=h1.size;have:=HAA.o;omega))
   exact h2.trans (HXB.o.mono (by have:=h2.size;have:=HAA.o;omega)))
  have HXO:=hid (HOK.o.later HXB.o)
  obtain ⟨D,hD⟩:=ex_eq w2.heap.size
  rw [hD] at HXG ⊢
  clear hD
  obtain ⟨q0,q1,q2,q3,q4,q5,q6,q7,q8,q9,q10,q11,q12,q13⟩:=row14 HXG.o
  obtain ⟨L,hy1,hy2⟩:=HYS.o
  have HY1:=hid hy1
  have HY2:=hid hy2
  clear hy1 hy2
  have HRX:Hid (RangeV Tryz.prog 42 X b1 rr c (listF R) (fun x=>lf x∧x≠pieceV s i) cnt1):=hid (HR1.o.later (HX1.o.mono (Nat.le_of_eq HAA.o.1)))
  have HWX:Hid (Below rr w X):=hid (HB1.o.trans (HX1.o.mono (by have:=HAA.o;omega)))
  have HZV:Hid (0≤sz∧sz≤65536):=hid (by
   have h1:=(HBK.o.good.v _ (curB_some HCR.o).1).gd.s0
   have h2:=(HBK.o.good.v _ (curB_some HCR.o).1).gd.s1
   simp only at h1 h2
   omega)
  have HTB:Hid (0≤t∧t≤6553600000):=hid (by rw [HY1.o];exact sumV_small HBK.o.good HY2.o (by have:=HBK.o.len;omega))
  have HRL2:Hid (rr+1≤X.heap.size):=hid (by have:=HX1.o.size;have:=HAA.o;omega)
  by_cases hh:hol=h
  rotate_left
  ·have hb:(hol==h)=false:=by rw [beq_eq_false_iff_ne];exact hh
   have HSN:Hid (Seen m h (toCome (fun x=>lf x∧x≠pieceV s i)) L):=hid (by
    have h1:=seen_miss HBK.o.good HY2.o (p:=⟨s,i⟩) (fun x hx=>by
     rw [HCR.o] at hx
     cases hx
     exact hh)
    rw [← toCome_step] at h1
    exact h1)
   clear hh
   go_wp2_with fail
   go_roundw
   case rel=>exact ⟨_,cnt1,t,rfl,HRX,hid ⟨L,HY1.o,HSN.o⟩,HWX,HRL2⟩
   case measure=>rw [HRX.o.left_eq,HRV.o.left_eq];exact HLT.o
  have hb:(hol==h)=true:=by rw [beq_iff_eq];exact hh
  have HSN:Hid (Seen m h (toCome (fun x=>lf x∧x≠pieceV s i)) (L++[⟨hol,vlt,str,ix,sz,day,ser,cnt',pl,root,pa,si,pt,sq⟩])):=hid (by
   have h1:=seen_hit HBK.o.good HY2.o (p:=⟨s,i⟩) HLF.o HCR.o hh
   rw [← toCome_step] at h1
   exact h1)
  clear hh
  by_cases hv:vlt=v
  rotate_left
  ·have hb2:(vlt==v)=false:=by rw [beq_eq_false_iff_ne];exact hv
   have HTN:Hid (t=sumV v (L++[⟨hol,vlt,str,ix,sz,day,ser,cnt',pl,root,pa,si,pt,sq⟩])):=hid (by rw [sumV_snoc,if_neg hv,HY1.o];omega)
   clear hv
   go_wp2_with fail
   go_roundw
   case rel=>exact ⟨_,cnt1,t,rfl,HRX,hid ⟨_,HTN.o,HSN.o⟩,HWX,HRL2⟩
   case measure=>rw [HRX.o.left_eq,HRV.o.left_eq];exact HLT.o
  have hb2:(vlt==v)=true:=by rw [beq_iff_eq];exact hv
  have HTN:Hid (t+sz=sumV v (L++[⟨hol,vlt,str,ix,sz,day,ser,cnt',pl,root,pa,si,pt,sq⟩])):=hid (by rw [sumV_snoc,if_pos hv,HY1.o])
  have hwr:IntKind.i64.wrap (t+sz)=t+sz:=by rw [IntKind.wrap_i64];have:=HTB.o;have:=HZV.o;omega
  clear hv
  go_wp2_with fail
  go_roundw
  case rel=>exact ⟨_,cnt1,t+sz,by go_num,HRX,hid ⟨_,HTN.o,HSN.o⟩,HWX,HRL2⟩
  case measure=>rw [HRX.o.left_eq,HRV.o.left_eq];exact HLT.o
def relK (m:List Rc) (s:ByteArray) (k:Nat):List Rc:=m.filter fun x=> !(decide (x.str=s) && decide (x.ix<(k:Int)))
theorem relK_zero {m:List Rc} (hg:GoodB m) (s:ByteArray):relK m s 0=m:=List.filter_eq_self.2 fun x hx=>by
 have:=(hg.v x hx).gd.i0
 have h:decide (x.ix<((0:Nat):Int))=false:=by rw [decide_eq_false_iff_not];omega
 rw [h]
 cases decide (x.str=s)<;> rfl
theorem relK_end {m:List Rc} (hg:GoodB m) (s:ByteArray):relK m s 16=relB m s:=List.filter_congr fun x hx=>by
 have:=(hg.v x hx).gd.i1
 have h:decide (x.ix<((16:Nat):Int))=true:=by rw [decide_eq_true_eq];omega
 rw [h,Bool.and_true]
theorem relK_succ (m:List Rc) (s:ByteArray) (k:Nat) (h0: ∀x ∈ m,0≤x.ix):relK m s (k+1)=(relK m s k).filter (fun x=> !isPc ⟨s,(k:Int)⟩ x):=by
 unfold relK
 rw [List.filter_filter]
 refine List.filter_congr fun x hx=> ?_
 have hx0:=h0 x hx
 have e:isPc ⟨s,(k:Int)⟩ x=(decide (x.str=s) && decide (x.ix=(k:Int))):=by
  unfold isPc Rc.pc
  rw [Bool.eq_iff_iff]
  simp only [Bool.and_eq_true,decide_eq_true_eq,Pc.mk.injEq]
 have e2:decide (x.ix<((k+1:Nat):Int))=(decide (x.ix=(k:Int)) || decide (x.ix<(k:Int))):=by
  rw [Bool.eq_iff_iff]
  simp only [Bool.or_eq_true,decide_eq_true_eq]
  omega
 rw [e,e2]
 cases decide (x.str=s)<;> cases decide (x.ix=(k:Int))<;> cases decide (x.ix<(k:Int))<;> rfl
theorem ofB_count (m:List Rc) (p:Pc):(m.filter (fun x=> !isPc p x)).length+(ofB m p).length=m.length:=by
 unfold ofB
 rw [← List.countP_eq_length_filter,← List.countP_eq_length_filter,List.length_eq_countP_add_countP (isPc p) (l:=m)]
 have e:List.countP (fun x=> !isPc p x) m=List.countP (fun a=>decide (¬isPc p a=true)) m:=List.countP_congr fun x _=>by simp
 omega
def minus (m:List Rc) (l:List Rc):List Rc:=m.filter fun x=> !l.any (fun y=>sameN y x)
theorem minus_nil (m:List Rc):minus m []=m:=List.filter_eq_self.2 fun x _=>rfl
theorem findN_minus {m l:List Rc} (hg:GoodB m) (y:Rc) (h s:Int):findN (minus m (l++[y])) h s=if h=y.hol∧s=y.ser then none else findN (minus m l) h s:=by
 have e:minus m (l++[y])=(minus m l).filter (fun x=> !sameN y x):=by
  unfold minus
  rw [List.filter_filter]
  refine List.filter_congr fun x _=> ?_
  rw [List.any_append]
  simp only [List.any_cons,List.any_nil,Bool.or_false]
  cases l.any (fun y=>sameN y x)<;> cases sameN y x<;> rfl
 rw [e]
 have hg2:GoodB (minus m l):=hg.filter _
 split
 ·rename_i hh
  refine findN_none.2 fun x hx=> ?_
  obtain ⟨h1,h2⟩:=List.mem_filter.1 hx
  rintro ⟨e1,e2⟩
  have:sameN y x=true:=sameN_iff.2 ⟨by rw [e1,hh.1],by rw [e2,hh.2]⟩
  rw [this] at h2
  cases h2
 ·rename_i hh
  cases hf:findN (minus m l) h s with
  | none=>exact findN_none.2 fun x hx=>findN_none.1 hf x (List.mem_filter.1 hx).1
  | some z=>
    obtain ⟨h1,h2,h3⟩:=findN_some hf
    have hz:z ∈ (minus m l).filter (fun x=> !sameN y x):=List.mem_filter.2 ⟨h1,by
     cases hc:sameN y z with
     | false=>rfl
     | true=>
       have:=sameN_iff.1 hc
       exact absurd ⟨by rw [← h2,this.1],by rw [← h3,this.2]⟩ hh⟩
    have h4:=findN_eq (hg2.filter (fun x=> !sameN y x)) hz
    rw [h2,h3] at h4
    exact h4
theorem minus_of {m:List Rc} (hg:GoodB m) (p:Pc):minus m (ofB m p)=m.filter (fun x=> !isPc p x):=List.filter_congr fun x hx=>by
 congr 1
 rw [Bool.eq_iff_iff,List.any_eq_true]
 constructor
 ·rintro ⟨y,hy,hs⟩
  obtain ⟨h1,h2⟩:=List.mem_filter.1 hy
  have:=hg.uniq h1 hx (sameN_iff.1 hs)
  rw [← this]
  exact h2
 ·intro hp
  exact ⟨x,List.mem_filter.2 ⟨hx,hp⟩,sameN_iff.2 ⟨rfl,rfl⟩⟩
theorem numF_minus {m l:List Rc} (hg:GoodB m) (y:Rc) {key:Value} (hne:key≠numberV y.hol y.ser):numF (minus m (l++[y])) key=numF (minus m l) key:=by
 unfold numF
 split
 ·rename_i h s
  rw [findN_minus hg,if_neg]
  rintro ⟨rfl,rfl⟩
  exact hne rfl
 ·rfl
theorem numF_minus_same {m l:List Rc} (hg:GoodB m) (y:Rc):numF (minus m (l++[y])) (numberV y.hol y.ser)=none:=by
 rw [numF_number,findN_minus hg,if_pos ⟨rfl,rfl⟩]
 rfl
theorem listF_del {R:Pc→Option BRow} {p:Pc} {key:Value} {l:Lit} (hk:keyOf Tryz.prog 42 key=some l) (hne:key≠pieceV p.s p.i):listF (fun q=>if q=p then none else R q) key=listF R key:=by
 obtain ⟨s,i,rfl,_⟩:=pieceInv hk
 rw [listF_piece,listF_piece]
 have:(⟨s,i⟩:Pc)≠p:=fun e=>hne (by rw [← e])
 simp only [if_neg this]
theorem BookR.removed {w5 w6 w7:World} {O:Nat→Prop} {bk b1 b2:Nat} {R:Pc→Option BRow} {m:List Rc} {c:Nat} (h:BookR w5 O bk b1 b2 R m c) (p:Pc) (c6:Chg (fun q _=>q=b2) w5 w6) (m6:MapV Tryz.prog 200 w6 b2 c (numF (m.filter (fun x=> !isPc p x)))) (m7:MapV Tryz.prog 42 w7 b1 c (listF (fun q=>if q=p then none else R q))) (g7:w6.grownBy w7 (some b1)):BookR w7 O bk b1 b2 (fun q=>if q=p then none else R q) (m.filter (fun x=> !isPc p x)) c:=by
 have c7:Chg (fun q _=>q=b1) w6 w7:=Chg.of_grown g7 (fun k i e=>by injection e with e;exact e.symm)
 have call:Chg (fun q _=>q=b2∨q=b1) w5 w7:=(c6.mono (fun _ _ _ h=> .inl h)).trans (c7.mono (fun _ _ _ h=> .inr h))
 obtain ⟨es,cl,hb1⟩:=h.m1.isMap
 obtain ⟨es2,cl2,hb2⟩:=h.m2.isMap
 have hcell: ∀q,(∃cc t f,w5.heap[q]? =some (.cells cc t f))→ ∀i:Nat,¬(q=b2∨q=b1):=fun q ⟨cc,t,f,hq⟩ i e=>by
  rcases e with e | e
  ·rw [e,hb2] at hq;cases hq
  ·rw [e,hb1] at hq;cases hq
 have hof: ∀q,q≠p→ofB (m.filter (fun x=> !isPc p x)) q=ofB m q:=fun q hq=>by
  unfold ofB
  rw [List.filter_filter]
  refine List.filter_congr fun x _=> ?_
  cases hc:isPc q x with
  | false=>rfl
  | true=>
    have e:=of_decide_eq_true hc
    have:isPc p x=false:=decide_eq_false (fun e2=>hq (by rw [← e,e2]))
    rw [this]
    rfl
 have hofp:ofB (m.filter (fun x=> !isPc p x)) p=[]:=List.filter_eq_nil_iff.2 fun x hx hp=>by
  have:=(List.mem_filter.1 hx).2
  rw [hp] at this
  cases this
 have hR: ∀{q:Pc} {r:BRow},(if q=p then none else R q)=some r→q≠p∧R q=some r:=fun {q r} hr=>by
  by_cases e:q=p
  ·rw [if_pos e] at hr;cases hr
  ·rw [if_neg e] at hr;exact ⟨e,hr⟩
 refine ⟨h.good.filter _,Nat.le_trans (List.length_filter_le _ _) h.len,?_,m7,?_,h.ne12,?_,?_,?_,?_,h.o0,h.o1,h.o2,?_,?_⟩
 ·exact (call.other bk (h.lt bk h.o0) (hcell bk ⟨_,_,_,h.cell⟩)).trans h.cell
 ·exact m6.keep (g7.block b2 m6.lt (fun e=>by injection e with e;exact h.ne12 e.symm))
 ·intro q r hr
  obtain ⟨h1,h2⟩:=hR hr
  obtain ⟨a1,a2,a3⟩:=h.row q r h2
  obtain ⟨rest,hg,_⟩:=a1
  exact ⟨(h.row q r h2).1.keep (call.other r.g (h.lt _ (h.og q r h2)) (hcell _ ⟨_,_,_,hg⟩)),by rw [a2,hof q h1],a3⟩
 ·intro q hr
  by_cases e:q=p
  ·rw [e];exact hofp
  ·rw [if_neg e] at hr
   rw [hof q e]
   exact h.no q hr
 ·intro q r hr y hy
  obtain ⟨h1,h2⟩:=hR hr
  obtain ⟨a1,a2,a3⟩:=h.ok q r h2 y hy
  exact ⟨a1.keepB call (fun b hb i e=>hcell b (a1.block hb) i e),a2,fun p' r' hr'=>a3 p' r' (hR hr').2⟩
 ·intro q r q' r' hr hr' e
  exact h.apart q r q' r' (hR hr).2 (hR hr').2 e
 ·intro q r hr
  exact h.og q r (hR hr).2
 ·intro q hq
  exact Nat.lt_of_lt_of_le (h.lt q hq) call.size
theorem wp_deleteRun {P:Program} (w:World) {o:Oper} {a:Act} {K:Act→World→Prop} {Q:Exit→Act→World→Prop} (s x:Operand) (t tn:TypeId)
    (ho:o.op= .call { callee:= .builtin .delete,args:= #[s,x],argTypes:= #[t,tn] }) (vs vx:Value) (hs:a.eval s=vs) (hx:a.eval x=vx)
    (v':Value) (w':World) (hr:(Builtin.delete_ #[t,tn] o.type #[vs,vx]).run P w= .ok v' w') (h:K (a.put o.dst v') w'):o.wp P a w K Q:=by
 unfold Oper.wp execOp
 simp only [ho,resolve,invoke,builtin,Sem.run_bind,Sem.run_pure,Result.andThen_ok,List.map_toArray,List.map_cons,List.map_nil,hs,hx,hr]
 exact h
theorem release_any (O:Nat→Prop) (bk:Nat) (m:List Rc) (c:Nat) (hc:c≤100000) (s:ByteArray) (hs:s.size≤maxLen) (w:World) (hB:BookAt w O bk m c):Calls Tryz.prog 40 #[.pointer (some ⟨bk,0,none⟩),.string s] w fun e w'=>e= .returned (.int .i64 ((m.length - (relB m s).length:Nat):Int))∧BookAt w' O bk (relB m s) c∧Chg (fun q _=>O q) w w':=by
 obtain ⟨b1,b2,R0,hB⟩:=hB
 have HBK:=hid hB
 have HKS:=hid hs
 have HM:Hid (m.length≤100000∧ ∀x ∈ m,0≤x.ix):=hid ⟨by have:=hB.len;omega,fun x hx=>(hB.good.v x hx).gd.i0⟩
 clear hB hs
 go_enter Tryz.func40,Tryz.ntmps40
 go_upto_region 3 with fail
 go_loopw [10,5] (fun z t wr=> ∃k:Nat,k≤16∧z= .int .i64 (k:Int)∧t= .int .i64 ((m.length - (relK m s k).length:Nat):Int)∧Hid (∃R,BookR wr O bk b1 b2 R (relK m s k) c)∧Hid (Chg (fun q _=>O q) w wr)) (fun z _ _=>16 - (intOf z).toNat)
 case atStart=>exact ⟨0,by omega,rfl,by rw [relK_zero HBK.o.good,Nat.sub_self];rfl,hid ⟨R0,by rw [relK_zero HBK.o.good];exact HBK.o⟩,hid (Chg.refl _ _)⟩
 case round=>
  obtain ⟨k,hk,rfl,rfl,HR,HCW⟩:=hrel
  by_cases hlt:k<16
  rotate_left
  ·have hki: ¬(k:Int)<16:=by omega
   have hke:k=16:=by omega
   go_wp2_with fail
   go_ret
   obtain ⟨R,hR⟩:=HR.o
   rw [hke,relK_end HBK.o.good] at hR
   exact ⟨by first | (rw [relK_end HBK.o.good];rfl) | (rw [hke,relK_end HBK.o.good];rfl),⟨b1,b2,R,hR⟩,HCW.o⟩
  have hki:(k:Int)<16:=by omega
  obtain ⟨R,hR⟩:=HR.o
  have HBR:=hid hR
  clear hR
  obtain ⟨n0,hn0⟩:=ex_eq (m.length - (relK m s k).length)
  have HN0:=hid hn0
  rw [hn0]
  have hnb:n0≤100000:=by have:=HM.o.1;omega
  clear hn0
  obtain ⟨mk,hmk⟩:=ex_eq (relK m s k)
  have HMK:=hid hmk
  rw [hmk] at HBR HN0
  clear hmk HR
  have HWF:Hid ((Lit.int .i64 (k:Int)).wf=true):=hid (wf64 (by omega) (by omega))
  obtain ⟨la,ln,lc,xs,hla,hlk⟩: ∃(la:Option Addr) (ln lc:Nat) (xs:List RcV),((la=none∧ln=0∧lc=0∧xs=[]∧R ⟨s,(k:Int)⟩=none)∨ ∃g,la=some ⟨g,0,none⟩∧xs.length=ln∧R ⟨s,(k:Int)⟩=some ⟨g,lc,xs⟩)∧((R ⟨s,(k:Int)⟩).map BRow.val).getD (.slice none 0 0)= .slice la ln lc:=by
   cases hR:R ⟨s,(k:Int)⟩ with
   | none=>exact ⟨none,0,0,[],.inl ⟨rfl,rfl,rfl,rfl,rfl⟩,rfl⟩
   | some r=>exact ⟨some ⟨r.g,0,none⟩,r.xs.length,r.cap,r.xs,.inr ⟨r.g,rfl,rfl,rfl⟩,rfl⟩
  have HLK:=hid hlk
  have HXF:Hid (xs.map RcV.r=ofB mk ⟨s,(k:Int)⟩∧xs.length=ln):=hid (by
   rcases hla with ⟨_,e1,_,e,hR⟩ | ⟨g,_,e,hR⟩
   ·rw [e,e1,HBR.o.no _ hR];exact ⟨rfl,rfl⟩
   ·exact ⟨(HBR.o.row _ _ hR).2.1,e⟩)
  have HLA:=hid hla
  have hln:ln≤100000:=by
   have e1:=congrArg List.length HXF.o.1
   rw [List.length_map,HXF.o.2] at e1
   have e2:(ofB mk ⟨s,(k:Int)⟩).length≤mk.length:=List.length_filter_le _ _
   have:=HBR.o.len
   omega
  clear hla hlk
  go_upto_region 6 with fail
  refine wp_over (fun V=>Hid (V.heap[wr.heap.size]? =some (.cells #[.string s,.int .i64 (k:Int)] 42 (0,0)))∧Hid (Below wr.heap.size wr V)∧Hid (V.heap.size=wr.heap.size+1)) ⟨heap_alloc_new _ _,(Below.refl _ _).alloc (Nat.le_refl _) _,by show _=_;simp⟩ ?_
  rintro V ⟨HG,HB,HW⟩
  obtain ⟨N,hN⟩:=ex_eq wr.heap.size
  rw [hN] at HG HB HW ⊢
  have HN:=hid hN
  clear hN
  have HBV:Hid (BookR V O bk b1 b2 R mk c):=hid (HBR.o.later (by rw [HN.o];exact HB.o))
  have HSB:Hid (∀U,Below V.heap.size V U→U.cell? ⟨bk,0,none⟩=some (.map (some b1))∧(U.cell? ⟨N,0,none⟩=some (.string s)∧U.cell? ⟨N,1,none⟩=some (.int .i64 (k:Int)))∧(Instr.lookup 195 (.map (some b1)) (.agg #[.string s,.int .i64 (k:Int)]) false).run Tryz.prog U= .ok (.slice la ln lc) U):=hid (fun U h=>by
   have hb:=HBV.o.later h
   have hl:=hb.look HKS.o HWF.o
   have hg:=(h.block N (by have:=HW.o;omega)).trans HG.o
   rw [HLK.o] at hl
   exact ⟨hb.cells.1,⟨cr hg,cr hg⟩,hl⟩)
  have HDR:Hid (Below V.heap.size V V.drew):=hid (Below.refl _ _).drew
  obtain ⟨VD,hVD⟩:=ex_eq V.drew
  rw [hVD] at HDR
  refine Kit.wp_region_gplan (fun V=>V.cell? ⟨bk,0,none⟩=some (.map (some b1))∧(V.cell? ⟨N,0,none⟩=some (.string s)∧V.cell? ⟨N,1,none⟩=some (.int .i64 (k:Int)))∧(Instr.lookup 195 (.map (some b1)) (.agg #[.string s,.int .i64 (k:Int)]) false).run Tryz.prog V= .ok (.slice la ln lc) V) [(true,0),(true,1),(true,2),(true,3),(true,4),(true,5),(true,6),(true,7)] (by kernel_rfl) (by kernel_rfl) (by kernel_rfl) (by kernel_rfl) (by rw [hVD];exact HSB.o _ HDR.o) ?_
  rw [hVD]
  clear hVD
  iterate 8 (refine Kit.ghd (h:= ?_))
  refine Kit.gdn (h:=?_)
  have HBD:Hid (BookR VD O bk b1 b2 R mk c):=hid (HBV.o.later HDR.o)
  have HGD:Hid (VD.heap[N]? =some (.cells #[.string s,.int .i64 (k:Int)] 42 (0,0))):=hid ((HDR.o.block N (by have:=HW.o;omega)).trans HG.o)
  have HCD:Hid (Chg (fun q _=>O q) w VD):=hid (HCW.o.trans ((Chg.of_below (by rw [HN.o];exact HB.o)).trans (Chg.of_below HDR.o)))
  have HNO:Hid (∀q,O q→q<N):=hid (fun q hq=>by have:=HBR.o.lt q hq;have:=HN.o;omega)
  clear HG HB HW HSB HDR HBV
  go_upto_region 7 with fail
  go_loopw [23,5] (fun z t wq=> ∃j:Nat,j≤ln∧z= .int .i64 (j:Int)∧t= .int .i64 ((n0+j:Nat):Int)∧Hid (MapV Tryz.prog 200 wq b2 c (numF (minus mk ((xs.take j).map RcV.r))))∧Hid (Chg (fun q _=>q=b2) VD wq)) (fun z _ _=>ln - (intOf z).toNat)
  case atStart=>exact ⟨0,Nat.zero_le _,rfl,by rw [Nat.add_zero],hid (by rw [List.take_zero,List.map_nil,minus_nil];exact HBD.o.m2),hid (Chg.refl _ _)⟩
  case round=>
   obtain ⟨j,hj,rfl,rfl,HM2,HQ⟩:=hrel
   -- what stays while only the map of the numbers is turned
   have HKP:Hid (∀U,Chg (fun q _=>q=b2) VD U→(U.cell? ⟨bk,0,none⟩=some (.map (some b1))∧U.cell? ⟨bk,1,none⟩=some (.map (some b2)))∧U.heap[N]? =some (.cells #[.string s,.int .i64 (k:Int)] 42 (0,0))∧ ∀p r,R p=some r→RowN RcV.cells 14 47 U r.g r.cap r.xs):=hid (fun U h=>by
    obtain ⟨es,cl,hb⟩:=HBD.o.m2.isMap
    have hnb: ∀q,(∃cc t f,VD.heap[q]? =some (.cells cc t f))→q<VD.heap.size∧ ∀i:Nat,¬q=b2:=fun q ⟨cc,t,f,hq⟩=>⟨(gS hq).1,fun i e=>by rw [e,hb] at hq;cases hq⟩
    have h1:=hnb bk ⟨_,_,_,HBD.o.cell⟩
    have h2:=hnb N ⟨_,_,_,HGD.o⟩
    have e1:=(h.other bk h1.1 h1.2).trans HBD.o.cell
    refine ⟨⟨cr e1,cr e1⟩,(h.other N h2.1 h2.2).trans HGD.o,fun p r hr=> ?_⟩
    have h3:=(HBD.o.row p r hr).1
    obtain ⟨rest,hg,_⟩:=h3
    have h4:=hnb r.g ⟨_,_,_,hg⟩
    exact (HBD.o.row p r hr).1.keep (h.other r.g h4.1 h4.2))
   by_cases hjl:j<ln
   rotate_left
   ·have hji: ¬(j:Int)<(ln:Int):=by omega
    have hje:j=ln:=by omega
    have HM3:Hid (MapV Tryz.prog 200 wr b2 c (numF (mk.filter (fun x=> !isPc ⟨s,(k:Int)⟩ x)))):=hid (by
     have h:=HM2.o
     rw [hje,List.take_of_length_le (by rw [HXF.o.2];exact Nat.le_refl _),HXF.o.1,minus_of HBD.o.good] at h
     exact h)
    go_upto_region 12 with fail
    have HS12:Hid (∀U,Chg (fun q _=>q=b2) VD U→U.cell? ⟨bk,0,none⟩=some (.map (some b1))∧(U.cell? ⟨N,0,none⟩=some (.string s)∧U.cell? ⟨N,1,none⟩=some (.int .i64 (k:Int)))):=hid (fun U h=>by
     obtain ⟨f1,f2,_⟩:=HKP.o U h
     exact ⟨f1.1,cr f2,cr f2⟩)
    have HQD:Hid (Chg (fun q _=>q=b2) VD wr.drew):=hid HQ.o.drew
    have HMD:Hid (MapV Tryz.prog 42 wr.drew b1 c (listF R)):=hid (HBD.o.m1.keep (HQ.o.other b1 HBD.o.m1.lt (fun i e=>HBD.o.ne12 e)))
    have HM4:Hid (MapV Tryz.prog 200 wr.drew b2 c (numF (mk.filter (fun x=> !isPc ⟨s,(k:Int)⟩ x)))):=hid HM3.o
    obtain ⟨WD,hWD⟩:=ex_eq wr.drew
    rw [hWD] at HQD HMD HM4
    obtain ⟨kl,hkl⟩:=pieceKey HKS.o HWF.o
    obtain ⟨w7,hrun7,hm7,hg7,hs7⟩:=HMD.o.del (t:= 195) (e:= 32) pieceKeyed Tryz.underlying195 hkl 0 (listF (fun q=>if q=⟨s,(k:Int)⟩ then none else R q)) (by rw [listF_piece,if_pos rfl];rfl) (fun key l hk2 hne=>listF_del hk2 hne)
    have HM7:=hid hm7
    have HG7:=hid hg7
    unfold pieceV at hrun7
    clear hm7 hg7 hs7 hkl
    refine Kit.wp_region_gplan (fun V=>V.cell? ⟨bk,0,none⟩=some (.map (some b1))∧(V.cell? ⟨N,0,none⟩=some (.string s)∧V.cell? ⟨N,1,none⟩=some (.int .i64 (k:Int)))) [(true,0),(true,1),(true,2),(true,3),(true,4),(false,5)] (by kernel_rfl) (by kernel_rfl) (by kernel_rfl) (by kernel_rfl) (by rw [hWD];exact HS12.o _ HQD.o) ?_
    rw [hWD]
    clear hWD
    iterate 5 (refine Kit.ghd (h:= ?_))
    refine Kit.gplan_op (by rfl) (by rfl) fun K hK=> ?_
    refine wp_deleteRun _ _ _ 195 42 rfl _ _ (by rfl) (by rfl) _ _ hrun7 ?_
    have HS7:Hid (w7.cell? ⟨bk,0,none⟩=some (.map (some b1))∧(w7.cell? ⟨N,0,none⟩=some (.string s)∧w7.cell? ⟨N,1,none⟩=some (.int .i64 (k:Int)))):=hid (by
     obtain ⟨es,cl,hb⟩:=HBD.o.m1.isMap
     obtain ⟨_,f2,_⟩:=HKP.o WD HQD.o
     have hsz:bk<WD.heap.size:=Nat.lt_of_lt_of_le (HBD.o.lt bk HBD.o.o0) HQD.o.size
     have hbn:bk≠b1:=fun e=>by
      have h:=HBD.o.cell
      rw [e,hb] at h;cases h
     have hNn:N≠b1:=fun e=>by
      have h:=HGD.o
      rw [e,hb] at h;cases h
     have e2:w7.heap[N]? =some (.cells #[.string s,.int .i64 (k:Int)] 42 (0,0)):=(HG7.o.block N (gS f2).1 (fun e=>by injection e with e;exact hNn e)).trans f2
     obtain ⟨es2,cl2,hb2⟩:=HBD.o.m2.isMap
     have e0:WD.heap[bk]? =some (.cells #[.map (some b1),.map (some b2)] 198 (0,0)):=(HQD.o.other bk (HBD.o.lt bk HBD.o.o0) (fun i e=>by
      have h:=HBD.o.cell
      rw [e,hb2] at h;cases h)).trans HBD.o.cell
     have e1:=(HG7.o.block bk hsz (fun e=>by injection e with e;exact hbn e)).trans e0
     exact ⟨cr e1,cr e2,cr e2⟩)
    refine hK _ _ HS7.o ?_
    clear hK K hrun7
    refine Kit.gdn (h:=?_)
    have HBF:Hid (BookR w7 O bk b1 b2 (fun q=>if q=⟨s,(k:Int)⟩ then none else R q) (relK m s (k+1)) c):=hid (by
     rw [relK_succ m s k HM.o.2,HMK.o]
     exact HBD.o.removed ⟨s,(k:Int)⟩ HQD.o HM4.o HM7.o HG7.o)
    have HCF:Hid (Chg (fun q _=>O q) w w7):=hid (HCD.o.trans ((HQD.o.mono (fun q _ _ e=>by rw [e];exact HBK.o.o2)).trans (Chg.of_grown HG7.o (fun q i e=>by injection e with e;rw [← e];exact HBK.o.o1))))
    have HNF:Hid (m.length - (relK m s (k+1)).length=n0+ln):=hid (by
     have h1:=ofB_count mk ⟨s,(k:Int)⟩
     have h2:=congrArg List.length HXF.o.1
     rw [List.length_map,HXF.o.2] at h2
     have h3:mk.length≤m.length:=by rw [← HMK.o];exact List.length_filter_le _ _
     rw [relK_succ m s k HM.o.2,HMK.o]
     have:=HN0.o
     omega)
    go_wp2_with fail
    go_roundw
    case rel=>exact ⟨k+1,hlt,by go_num,by rw [HNF.o];first | rfl | (rw [hje];rfl) | (subst hje;rfl),hid ⟨_,HBF.o⟩,HCF⟩
    case measure=>simp [intOf];omega
   have hji:(j:Int)<(ln:Int):=by omega
   have HJX:Hid (j<xs.length):=hid (by rw [HXF.o.2];exact hjl)
   obtain ⟨g,hg,hgx⟩: ∃g,la=some ⟨g,0,none⟩∧R ⟨s,(k:Int)⟩=some ⟨g,lc,xs⟩:=by
    rcases HLA.o with ⟨_,h,_⟩ | ⟨g,h1,_,h3⟩
    ·omega
    ·exact ⟨g,h1,h3⟩
   subst hg
   have hce:=(((HKP.o wr HQ.o).2.2 _ _ hgx).cells RcV.len j HJX.o).1
   have HXR:Hid ((xs.take (j+1)).map RcV.r=(xs.take j).map RcV.r++[(xs[j]'HJX.o).r]):=hid (by
    rw [List.take_succ_eq_append_getElem HJX.o,List.map_append]
    rfl)
   have HVX:Hid (ValidR (xs[j]'HJX.o).r):=hid (by
    have h:(xs[j]'HJX.o).r ∈ ofB mk ⟨s,(k:Int)⟩:=by rw [← HXF.o.1];exact List.mem_map_of_mem (List.getElem_mem _)
    exact HBD.o.good.v _ (List.mem_filter.1 h).1)
   obtain ⟨x,hx⟩:=ex_eq (xs[j]'HJX.o)
   rw [hx] at hce HXR HVX
   clear hx hgx
   obtain ⟨⟨hol,vlt,str,ix,sz,day,ser,cnt,pl,root,pa,si,pt,sq⟩,ap,c1,aq,c2,ar,c3⟩:=x
   simp only [RcV.cells] at hce
   obtain ⟨n1,e1⟩:=ex_eq pa.length
   obtain ⟨n2,e2⟩:=ex_eq pt.length
   obtain ⟨n3,e3⟩:=ex_eq sq.length
   rw [e1,e2,e3] at hce
   clear e1 e2 e3
   have c50:=hce 0 (by decide)
   have c51:=hce 1 (by decide)
   have c52:=hce 2 (by decide)
   have c53:=hce 3 (by decide)
   have c54:=hce 4 (by decide)
   have c55:=hce 5 (by decide)
   have c56:=hce 6 (by decide)
   have c57:=hce 7 (by decide)
   have c58:=hce 8 (by decide)
   have c59:=hce 9 (by decide)
   have c60:=hce 10 (by decide)
   have c61:=hce 11 (by decide)
   have c62:=hce 12 (by decide)
   have c63:=hce 13 (by decide)
   simp only [List.getElem?_cons_zero,List.getElem?_cons_succ,Nat.add_zero] at c50 c51 c52 c53 c54 c55 c56 c57 c58 c59 c60 c61 c62 c63
   clear hce
   go_upto_region 9 with fail
   clear c50 c51 c52 c53 c54 c55 c56 c57 c58 c59 c60 c61 c62 c63
   refine wp_over (fun U=>Hid (U.heap[wr.heap.size]? =some (.cells #[.int .i64 hol,.int .i64 vlt,.string str,.int .i64 ix,.int .i64 sz,.int .i64 day,.int .i64 ser,.int .i64 cnt,.int .i64 pl,.string root,.slice ap n1 c1,.int .i64 si,.slice aq n2 c2,.slice ar n3 c3] 47 (0,0)))∧Hid (Below wr.heap.size wr U)∧Hid (U.heap.size=wr.heap.size+1)) ⟨heap_alloc_new _ _,(Below.refl _ _).alloc (Nat.le_refl _) _,by show _=_;simp⟩ ?_
   rintro U ⟨HUG,HUB,HUZ⟩
   obtain ⟨A,hA⟩:=ex_eq wr.heap.size
   have HAA:Hid (wr.heap.size=A):=hid hA
   rw [hA] at HUG HUZ ⊢
   clear hA
   have HUC:Hid (Chg (fun q _=>q=b2) VD U):=hid (HQ.o.trans (Chg.of_below HUB.o))
   have HMU:Hid (MapV Tryz.prog 200 U b2 c (numF (minus mk ((xs.take j).map RcV.r)))):=hid (HM2.o.later HUB.o)
   have HUD:Hid (Chg (fun q _=>q=b2) VD U.drew∧MapV Tryz.prog 200 U.drew b2 c (numF (minus mk ((xs.take j).map RcV.r)))∧U.drew.heap[A]? =some (.cells #[.int .i64 hol,.int .i64 vlt,.string str,.int .i64 ix,.int .i64 sz,.int .i64 day,.int .i64 ser,.int .i64 cnt,.int .i64 pl,.string root,.slice ap n1 c1,.int .i64 si,.slice aq n2 c2,.slice ar n3 c3] 47 (0,0))):=hid ⟨HUC.o.drew,HMU.o,HUG.o⟩
   obtain ⟨UD,hUD⟩:=ex_eq U.drew
   rw [hUD] at HUD
   obtain ⟨kl,hkl⟩:=numberKey (h:=hol) (s:=ser) (wf64 (by have:=HVX.o.h0;simp only at this;omega) (by have:=HVX.o.h1;simp only at this;omega)) (wf64 (by have:=HVX.o.s0;simp only at this;omega) (by have:=HVX.o.s1;simp only at this;omega))
   obtain ⟨w9,hrun9,hm9,hg9,hs9⟩:=HUD.o.2.1.del (t:= 196) (e:= 193) numberKeyed Tryz.underlying196 hkl 0 (numF (minus mk ((xs.take j).map RcV.r++[⟨hol,vlt,str,ix,sz,day,ser,cnt,pl,root,pa,si,pt,sq⟩]))) (numF_minus_same HBD.o.good ⟨hol,vlt,str,ix,sz,day,ser,cnt,pl,root,pa,si,pt,sq⟩) (fun key l hk2 hne=>numF_minus HBD.o.good ⟨hol,vlt,str,ix,sz,day,ser,cnt,pl,root,pa,si,pt,sq⟩ hne)
   have HM9:=hid hm9
   have HG9:=hid hg9
   unfold numberV at hrun9
   clear hm9 hg9 hs9 hkl
   have HS9:Hid (∀V,Chg (fun q _=>q=b2) VD V→V.heap[A]? =some (.cells #[.int .i64 hol,.int .i64 vlt,.string str,.int .i64 ix,.int .i64 sz,.int .i64 day,.int .i64 ser,.int .i64 cnt,.int .i64 pl,.string root,.slice ap n1 c1,.int .i64 si,.slice aq n2 c2,.slice ar n3 c3] 47 (0,0))→V.cell? ⟨bk,1,none⟩=some (.map (some b2))∧(V.cell? ⟨A,0,none⟩=some (.int .i64 hol)∧V.cell? ⟨A,1,none⟩=some (.int .i64 vlt)∧V.cell? ⟨A,2,none⟩=some (.string str)∧V.cell? ⟨A,3,none⟩=some (.int .i64 ix)∧V.cell? ⟨A,4,none⟩=some (.int .i64 sz)∧V.cell? ⟨A,5,none⟩=some (.int .i64 day)∧V.cell? ⟨A,6,none⟩=some (.int .i64 ser)∧V.cell? ⟨A,7,none⟩=some (.int .i64 cnt)∧V.cell? ⟨A,8,none⟩=some (.int .i64 pl)∧V.cell? ⟨A,9,none⟩=some (.string root)∧V.cell? ⟨A,10,none⟩=some (.slice ap n1 c1)∧V.cell? ⟨A,11,none⟩=some (.int .i64 si)∧V.cell? ⟨A,12,none⟩=some (.slice aq n2 c2)∧V.cell? ⟨A,13,none⟩=some (.slice ar n3 c3))):=hid (fun V h hv=>⟨(HKP.o V h).1.2,row14 hv⟩)
   refine Kit.wp_region_gplan (fun V=>V.cell? ⟨bk,1,none⟩=some (.map (some b2))∧(V.cell? ⟨A,0,none⟩=some (.int .i64 hol)∧V.cell? ⟨A,1,none⟩=some (.int .i64 vlt)∧V.cell? ⟨A,2,none⟩=some (.string str)∧V.cell? ⟨A,3,none⟩=some (.int .i64 ix)∧V.cell? ⟨A,4,none⟩=some (.int .i64 sz)∧V.cell? ⟨A,5,none⟩=some (.int .i64 day)∧V.cell? ⟨A,6,none⟩=some (.int .i64 ser)∧V.cell? ⟨A,7,none⟩=some (.int .i64 cnt)∧V.cell? ⟨A,8,none⟩=some (.int .i64 pl)∧V.cell? ⟨A,9,none⟩=some (.string root)∧V.cell? ⟨A,10,none⟩=some (.slice ap n1 c1)∧V.cell? ⟨A,11,none⟩=some (.int .i64 si)∧V.cell? ⟨A,12,none⟩=some (.slice aq n2 c2)∧V.cell? ⟨A,13,none⟩=some (.slice ar n3 c3))) [(true,0),(true,1),(true,2),(true,3),(true,4),(true,5),(true,6),(true,7),(true,8),(false,9)] (by kernel_rfl) (by kernel_rfl) (by kernel_rfl) (by kernel_rfl) (by rw [hUD];exact HS9.o _ HUD.o.1 HUD.o.2.2) ?_
   rw [hUD]
   clear hUD
   iterate 9 (refine Kit.ghd (h:= ?_))
   refine Kit.gplan_op (by rfl) (by rfl) fun K hK=> ?_
   refine wp_deleteRun _ _ _ 196 200 rfl _ _ (by rfl) (by rfl) _ _ hrun9 ?_
   have HQ9:Hid (Chg (fun q _=>q=b2) VD w9):=hid (HUD.o.1.trans (Chg.of_grown HG9.o (fun q i e=>by injection e with e;exact e.symm)))
   refine hK _ _ (HS9.o _ HQ9.o ((HG9.o.block A (gS HUD.o.2.2).1 (fun e=>by
    injection e with e
    obtain ⟨es,cl,hb⟩:=HUD.o.2.1.isMap
    have h:=HUD.o.2.2
    rw [e,hb] at h;cases h)).trans HUD.o.2.2)) ?_
   clear hK K hrun9
   refine Kit.gdn (h:=?_)
   have hw1:IntKind.i64.wrap (((n0+j:Nat):Int)+1)=((n0+j:Nat):Int)+1:=by rw [IntKind.wrap_i64];omega
   go_wp2_with fail
   go_roundw
   case rel=>exact ⟨j+1,hjl,by go_num,by go_num,hid (by rw [HXR.o];exact HM9.o),HQ9⟩
   case measure=>simp [intOf];omega
end Go.Proofs.YtndlihclgdkpaaaGreatDoor
namespace Go.Proofs.YtndlihclgdkpaaaGreatDoor
open Go.RowKit
open Kit (Chg)
open Sha (v)
open Go.Proofs.YtndlihclgdkpaaaGreatDoor.One

theorem refSameInts_ok (b1 b2 c1 c2 n:Nat) (zs:List Int) (hn:zs.length=n) (hn2:n≤100000) (w:World) (h1: ∀i (h:i<zs.length),w.cell? ⟨b1,i,none⟩=some (.int .i64 zs[i])) (h2: ∀i (h:i<zs.length),w.cell? ⟨b2,i,none⟩=some (.int .i64 zs[i])):
    Calls Tryz.prog 49 #[.slice (some ⟨b1,0,none⟩) n c1,.slice (some ⟨b2,0,none⟩) n c2] w fun e w'=>e= .returned (.bool true)∧Below w.heap.size w w':=by
 have HC1:=hid h1
 have HC2:=hid h2
 have HN:=hid hn
 clear h1 h2 hn
 go_enter Tryz.func49,Tryz.ntmps49
 go_upto_region 4 with fail
 go_loopw [5] (fun z wr=> ∃k:Nat,k≤n∧z= .int .i64 (k:Int)∧Hid (Below w.heap.size w wr)) (fun z _=>n - (intOf z).toNat)
 case atStart=>exact ⟨0,Nat.zero_le _,rfl,hid (Below.refl _ _)⟩
 case round=>
  obtain ⟨k,hk,rfl,HBE⟩:=hrel
  by_cases hlt:k<n
  rotate_left
  ·have hki: ¬(k:Int)<(n:Int):=by omega
   go_wp2_with fail
   go_ret
   exact ⟨rfl,HBE.o⟩
  have hki:(k:Int)<(n:Int):=by omega
  have HK:Hid (k<zs.length):=hid (by rw [HN.o];exact hlt)
  have hc1:=HC1.o k HK.o
  have hc2:=HC2.o k HK.o
  obtain ⟨z,hz⟩:=ex_eq (zs[k]'HK.o)
  rw [hz] at hc1 hc2
  clear hz
  have HS:Hid (∀V,Below w.heap.size w V→V.cell? ⟨b1,k,none⟩=some (.int .i64 z)∧V.cell? ⟨b2,k,none⟩=some (.int .i64 z)):=hid (fun V h=>⟨(h.cell (World.block_lt_of_cell? _ _ hc1)).trans hc1,(h.cell (World.block_lt_of_cell? _ _ hc2)).trans hc2⟩)
  clear hc1 hc2
  have HD:Hid (Below w.heap.size w wr.drew):=hid HBE.o.drew
  go_upto_region 6 with fail
  obtain ⟨VD,hVD⟩:=ex_eq wr.drew
  rw [hVD] at HD
  refine Kit.wp_region_gplan (fun V=>V.cell? ⟨b1,k,none⟩=some (.int .i64 z)∧V.cell? ⟨b2,k,none⟩=some (.int .i64 z)) [(true,0),(true,1),(true,2),(true,3),(true,4),(true,5),(true,6),(true,7),(true,8)] (by kernel_rfl) (by kernel_rfl) (by kernel_rfl) (by kernel_rfl) (by rw [hVD];exact HS.o _ HD.o) ?_
  rw [hVD]
  clear hVD
  iterate 9 (refine Kit.ghd (h:= ?_))
  refine Kit.gdn (h:=?_)
  go_wp2_with fail
  go_roundw
  case rel=>exact ⟨k+1,hlt,by go_num,HD⟩
  case measure=>simp [intOf];omega
end Go.Proofs.YtndlihclgdkpaaaGreatDoor
