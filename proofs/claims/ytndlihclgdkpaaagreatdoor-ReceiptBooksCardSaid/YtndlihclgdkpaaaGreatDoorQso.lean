/- sort.Search and slices.SortFunc at receipts: the kit's contracts, in this text's words. -/
import Derived.Shelf.SlSorted.Search
import Derived.Shelf.SlSortCmp.WholeK
import Derived.Test.YtndlihclgdkpaaaGreatDoorGh
import Derived.Test.YtndlihclgdkpaaaGreatDoorGm
import Derived.Test.YtndlihclgdkpaaaGreatDoorQcm
set_option linter.unusedVariables false
set_option linter.unusedSimpArgs false
open Go.Lib (hid)
set_option maxHeartbeats 4000000
set_option maxRecDepth 100000
namespace Go.Proofs.YtndlihclgdkpaaaGreatDoor
open Go.Shelf
open Go.RowKit
open Kit (Chg)
open Go.Proofs.YtndlihclgdkpaaaGreatDoor.One
def lay_search_ren:Go.Shelf.Ren:=⟨fun | 16=> 130 | n=>n,fun | 3=>3 | 35=> 204 | 4=>4 | 38=> 279 | n=>n,fun | n=>n⟩
theorem lay_search:SlLaysO.n16 Tryz.prog lay_search_ren:={
 mixed:=by kernel_rfl
 f16:= Tryz.func130.trans (congrArg some (by kernel_rfl))
 t3:= Tryz.underlying3
 a3:= Tryz.isAgg3
 z3:= Tryz.sizeOf3
 v3:= Tryz.zeroValue3
 t4:= Tryz.underlying4
 a4:= Tryz.isAgg4
 z4:= Tryz.sizeOf4
 v4:= Tryz.zeroValue4
 t35:= Tryz.underlying204
 a35:= Tryz.isAgg204
 z35:= Tryz.sizeOf204
 v35:= Tryz.zeroValue204
 t38:= Tryz.underlying279
 a38:= Tryz.isAgg279
 z38:= Tryz.sizeOf279
 v38:= Tryz.zeroValue279 }
def lay_sortRc_ren:Go.Shelf.Ren:=⟨fun | 6=> 165 | 15=> 235 | 14=> 234 | 28=> 283 | 29=> 284 | 20=> 275 | 21=> 276 | 22=> 277 | 23=> 278 | 24=> 279 | 25=> 280 | 26=> 281 | 27=> 282 | 46=> 306 | 47=> 307 | 48=> 308 | 49=> 309 | 50=> 310 | 57=> 314 | n=>n,fun | 22=> 32 | 24=> 47 | 25=> 203 | 3=>3 | 39=> 279 | 0=>0 | 53=> 304 | 55=> 167 | 4=>4 | 46=> 335 | 45=> 334 | 50=> 339 | 5=>5 | 9=>9 | 66=> 366 | 70=> 174 | 76=> 371 | 77=> 299 | n=>n,fun | n=>n⟩
theorem lay_sortRc:SlLaysF0.n6 Tryz.prog lay_sortRc_ren:={
 mixed:=by kernel_rfl
 f6:=⟨Tryz.f165.name,by decide,Tryz.func165.trans (congrArg some (by kernel_rfl))⟩
 f14:=⟨Tryz.f234.name,by decide,Tryz.func234.trans (congrArg some (by kernel_rfl))⟩
 f15:= Tryz.func235.trans (congrArg some (by kernel_rfl))
 f20:=⟨Tryz.f275.name,by decide,Tryz.func275.trans (congrArg some (by kernel_rfl))⟩
 f21:=⟨Tryz.f276.name,by decide,Tryz.func276.trans (congrArg some (by kernel_rfl))⟩
 f22:=⟨Tryz.f277.name,by decide,Tryz.func277.trans (congrArg some (by kernel_rfl))⟩
 f23:=⟨Tryz.f278.name,by decide,Tryz.func278.trans (congrArg some (by kernel_rfl))⟩
 f24:=⟨Tryz.f279.name,by decide,Tryz.func279.trans (congrArg some (by kernel_rfl))⟩
 f25:=⟨Tryz.f280.name,by decide,Tryz.func280.trans (congrArg some (by kernel_rfl))⟩
 f26:=⟨Tryz.f281.name,by decide,Tryz.func281.trans (congrArg some (by kernel_rfl))⟩
 f27:=⟨Tryz.f282.name,by decide,Tryz.func282.trans (congrArg some (by kernel_rfl))⟩
 f28:= Tryz.func283.trans (congrArg some (by kernel_rfl))
 f29:= Tryz.func284.trans (congrArg some (by kernel_rfl))
 f46:=⟨Tryz.f306.name,by decide,Tryz.func306.trans (congrArg some (by kernel_rfl))⟩
 f47:= Tryz.func307.trans (congrArg some (by kernel_rfl))
 f48:= Tryz.func308.trans (congrArg some (by kernel_rfl))
 f49:=⟨Tryz.f309.name,by decide,Tryz.func309.trans (congrArg some (by kernel_rfl))⟩
 f50:=⟨Tryz.f310.name,by decide,Tryz.func310.trans (congrArg some (by kernel_rfl))⟩
 f57:=⟨Tryz.f314.name,by decide,Tryz.func314.trans (congrArg some (by kernel_rfl))⟩
 t0:= Tryz.underlying0
 a0:= Tryz.isAgg0
 z0:= Tryz.sizeOf0
 v0:= Tryz.zeroValue0
 t3:= Tryz.underlying3
 a3:= Tryz.isAgg3
 z3:= Tryz.sizeOf3
 v3:= Tryz.zeroValue3
 t4:= Tryz.underlying4
 a4:= Tryz.isAgg4
 z4:= Tryz.sizeOf4
 v4:= Tryz.zeroValue4
 t5:= Tryz.underlying5
 a5:= Tryz.isAgg5
 z5:= Tryz.sizeOf5
 v5:= Tryz.zeroValue5
 t9:= Tryz.underlying9
 a9:= Tryz.isAgg9
 z9:= Tryz.sizeOf9
 v9:= Tryz.zeroValue9
 t22:= Tryz.underlying32
 a22:= Tryz.isAgg32
 z22:= Tryz.sizeOf32
 v22:= Tryz.zeroValue32
 t25:= Tryz.underlying203
 a25:= Tryz.isAgg203
 z25:= Tryz.sizeOf203
 v25:= Tryz.zeroValue203
 t39:= Tryz.underlying279
 a39:= Tryz.isAgg279
 z39:= Tryz.sizeOf279
 v39:= Tryz.zeroValue279
 t45:= Tryz.underlying334
 a45:= Tryz.isAgg334
 z45:= Tryz.sizeOf334
 v45:= Tryz.zeroValue334
 t46:= Tryz.underlying335
 a46:= Tryz.isAgg335
 z46:= Tryz.sizeOf335
 v46:= Tryz.zeroValue335
 t50:= Tryz.underlying339
 a50:= Tryz.isAgg339
 z50:= Tryz.sizeOf339
 v50:= Tryz.zeroValue339
 t53:= Tryz.underlying304
 a53:= Tryz.isAgg304
 z53:= Tryz.sizeOf304
 v53:= Tryz.zeroValue304
 t55:= Tryz.underlying167
 a55:= Tryz.isAgg167
 z55:= Tryz.sizeOf167
 v55:= Tryz.zeroValue167
 t66:= Tryz.underlying366
 a66:= Tryz.isAgg366
 z66:= Tryz.sizeOf366
 v66:= Tryz.zeroValue366
 t70:= Tryz.underlying174
 a70:= Tryz.isAgg174
 z70:= Tryz.sizeOf174
 v70:= Tryz.zeroValue174
 t76:= Tryz.underlying371
 a76:= Tryz.isAgg371
 z76:= Tryz.sizeOf371
 v76:= Tryz.zeroValue371
 t77:= Tryz.underlying299
 a77:= Tryz.isAgg299
 z77:= Tryz.sizeOf299
 v77:= Tryz.zeroValue299 }
instance:Inhabited RcV:=⟨zeroRV⟩
theorem flat_rcv (ys:List RcV):(Sort.flatK RcV.cells 14 ys.toArray).toList=rcv ys:=by
 refine List.ext_getElem? fun t=> ?_
 by_cases ht:t<ys.length*14
 ·have h1:t/14<ys.length:=by omega
  have h2:t % 14<14:=by omega
  have h3:t=t/14*14+t % 14:=by omega
  have e1:=rw_get RcV.len ys (t/14) h1 (t % 14) h2
  rw [← h3] at e1
  unfold rcv
  rw [e1]
  have hs:t<(Sort.flatK RcV.cells 14 ys.toArray).size:=by rw [Sort.size_flatK];simpa using ht
  have e2:=Sort.get_flatK RcV.cells 14 ys.toArray t (by simpa using ht)
  rw [getElem!_pos _ t hs] at e2
  rw [Array.getElem?_toList,Array.getElem?_eq_getElem hs,e2]
  have h4:t % 14<(RcV.cells ys[t/14]).length:=h2
  rw [lE h4]
  congr 1
  rw [getElem!_pos ys.toArray (t/14) (by simpa using h1)]
  simp only [List.getElem_toArray]
  exact getElem!_pos (RcV.cells ys[t/14]) (t % 14) h4
 ·rw [List.getElem?_eq_none (by rw [Array.length_toList,Sort.size_flatK];simp;omega),List.getElem?_eq_none (by rw [rcv_len];omega)]
theorem holdsK_rcv {w:World} {base n cap bl:Nat} {T:TypeId} {xs:List RcV} (h:w.ownsRow base T 14 (.slice (some ⟨bl,0,none⟩) n cap) n (rcv xs)):Sort.HoldsK RcV.cells 14 w bl 0 xs.toArray:=by
 intro j hj
 have hl:=h.1
 rw [rcv_len] at hl
 rw [Sort.size_flatK] at hj
 have hj2:j<xs.length*14:=by simpa using hj
 rw [Nat.zero_add]
 have h0:=flat_rcv xs
 rcases h.2 with ⟨e,_⟩ | ⟨g,cap',cur,e,h1,h2,h3,h4,h5,h6⟩
 ·cases e
 ·injection e with e1 e2 e3
  injection e1 with e1
  injection e1 with e1
  subst e1
  refine ⟨?_,frozen_of_row _ _ _ _ _ h2⟩
  have hs:j<(Sort.flatK RcV.cells 14 xs.toArray).size:=by rw [Sort.size_flatK];exact hj
  have hlt:j<cur.size:=by rw [h5];omega
  show w.cell? ⟨bl,j,none⟩=_
  unfold World.cell?
  simp only [h2]
  rw [getElem!_pos _ j hs]
  have e2:cur.toList.take (n*14)=(Sort.flatK RcV.cells 14 xs.toArray).toList:=by rw [h0,h6]
  have e3:=congrArg (fun q=>q[j]?) e2
  simp only [List.getElem?_take] at e3
  rw [if_pos (by omega),Array.getElem?_toList,Array.getElem?_toList,Array.getElem?_eq_getElem hlt,Array.getElem?_eq_getElem hs] at e3
  simpa [Array.getElem?_eq_getElem hlt] using Option.some.inj e3
theorem own_sortRc {w:World} {base n cap bl m:Nat} {T:TypeId} {xs:List RcV} {ys:Array RcV} {os:Array Obj} (h:w.ownsRow base T 14 (.slice (some ⟨bl,0,none⟩) n cap) n (rcv xs)) (hy:ys.size=xs.length):(sortWorldK RcV.cells 14 w bl 0 m ys os).ownsRow base T 14 (.slice (some ⟨bl,0,none⟩) n cap) n (rcv ys.toList)∧Chg (fun q _=>q=bl) w (sortWorldK RcV.cells 14 w bl 0 m ys os):=by
 have hl:=h.1
 rw [rcv_len] at hl
 have h1:(Sort.ahead w m).ownsRow base T 14 (.slice (some ⟨bl,0,none⟩) n cap) n (rcv xs):=h
 have h2:=own_putRow h1 (Sort.flatK RcV.cells 14 ys) (by rw [Sort.size_flatK];omega)
 have h3:=flat_rcv ys.toList
 rw [Array.toArray_toList] at h3
 rw [h3] at h2
 have c1:Chg (fun q _=>q=bl) w (Sort.ahead w m):=Chg.of_heap rfl rfl rfl rfl
 have c2:=c1.trans (putRow_chg (Sort.ahead w m) bl (Sort.flatK RcV.cells 14 ys))
 have hb:Below (Sort.putRow id (Sort.ahead w m) bl 0 (Sort.flatK RcV.cells 14 ys)).heap.size (Sort.putRow id (Sort.ahead w m) bl 0 (Sort.flatK RcV.cells 14 ys)) (Sort.grow (Sort.putRow id (Sort.ahead w m) bl 0 (Sort.flatK RcV.cells 14 ys)) os):=
  ⟨rfl,rfl,rfl,by rw [Sort.size_grow];exact Nat.le_add_right _ _,fun k hk=>by simp [Sort.grow,Array.getElem?_append_left hk]⟩
 exact ⟨own_later h2 hb,c2.trans (Chg.of_below hb)⟩
/-! ### The orders -/
theorem orI_cons (z:Int) (zs:List Int):orI (z::zs)=if z=0 then orI zs else z:=by
 unfold orI
 rw [List.find?_cons]
 by_cases h:z=0<;> simp [h]
theorem orI_nil:orI []=0:=rfl
def cmpR (a b:Rc):Int:=orI [cmpN a.day b.day,cmpN a.hol b.hol,cmpN a.ser b.ser]
def cmpP (a b:Rc):Int:=orI [cmpS a.str b.str,cmpN a.ix b.ix]
theorem cmpN_zero {x y:Int}:cmpN x y=0↔x=y:=by unfold cmpN;repeat' split<;> omega
theorem cmpN_pos {x y:Int}:0<cmpN x y↔y<x:=by unfold cmpN;repeat' split<;> omega
theorem cmpN_lt {x y:Int}:cmpN x y<0↔x<y:=by unfold cmpN;repeat' split<;> omega
theorem cmpR_pos {a b:Rc}:0<cmpR a b↔befR b a=true:=by
 unfold cmpR
 rw [orI_cons,orI_cons,orI_cons,orI_nil,befR_iff]
 have h1:= @cmpN_zero a.day b.day
 have h2:= @cmpN_zero a.hol b.hol
 have h3:= @cmpN_zero a.ser b.ser
 have k1:= @cmpN_pos a.day b.day
 have k2:= @cmpN_pos a.hol b.hol
 have k3:= @cmpN_pos a.ser b.ser
 repeat' split
 all_goals omega
theorem cmpS_zero {x y:ByteArray}:cmpS x y=0↔x=y:=by
 unfold cmpS
 constructor
 ·intro h
  by_cases he:x=y
  ·exact he
  ·rcases ltS_total he with h1 | h1
   ·rw [if_pos h1] at h;omega
   ·by_cases h2:ltS x y=true
    ·rw [if_pos h2] at h;omega
    ·rw [if_neg h2,if_pos h1] at h;omega
 ·intro h
  subst h
  rw [ltS_irrefl]
  rfl
theorem cmpS_lt {x y:ByteArray}:cmpS x y<0↔ltS x y=true:=by
 unfold cmpS
 by_cases h:ltS x y=true
 ·rw [if_pos h];simp [h]
 ·rw [if_neg h];split<;> simp [h]
theorem cmpP_lt {a b:Rc}:cmpP a b<0↔ltP a b=true:=by
 unfold cmpP
 rw [orI_cons,orI_cons,orI_nil,ltP_iff]
 have h1:= @cmpS_zero a.str b.str
 have h2:= @cmpN_zero a.ix b.ix
 have k1:= @cmpS_lt a.str b.str
 have k2:= @cmpN_lt a.ix b.ix
 have h3:a.str=b.str→ltS a.str b.str=false:=fun e=>by rw [e];exact ltS_irrefl _
 split
 ·rename_i h
  have e:=h1.1 h
  rw [h3 e]
  split
  ·rename_i h4
   have:=h2.1 h4
   constructor
   ·intro h5;omega
   ·rintro (h5 | h5)
    ·cases h5
    ·omega
  ·rw [k2]
   constructor
   ·intro h5;exact .inr ⟨e,h5⟩
   ·rintro (h5 | h5)
    ·cases h5
    ·exact h5.2
 ·rename_i h
  rw [k1]
  constructor
  ·exact .inl
  ·rintro (h5 | h5)
   ·exact h5
   ·exact absurd (h1.2 h5.1) h
/-! ### sort.Search in Add -/
theorem search_any (pl pr g cap n:Nat) (xs:List RcV) (x:RcV) (hn:xs.length=n) (hn2:n≤1000000) (hs:xs.Pairwise (fun a b=>befR a.r b.r=true)) (w:World) (hl:w.cell? ⟨pl,0,none⟩=some (.slice (some ⟨g,0,none⟩) n cap)) (hx: ∀j,j<14→w.cell? ⟨pr,j,none⟩=x.cells[j]?) (hr: ∀k (h:k<xs.length) j,j<14→w.cell? ⟨g,k*14+j,none⟩=xs[k].cells[j]?):
    Calls Tryz.prog 130 #[.int .i64 (n:Int),.func (.func 131) #[] #[.pointer (some ⟨pl,0,none⟩),.pointer (some ⟨pr,0,none⟩)]] w fun e w'=>e= .returned (.int .i64 ((xs.countP (fun y=> !befR x.r y.r):Nat):Int))∧Below w.heap.size w w':=by
 have hp: ∀i (h:i<xs.length),xs[i]! =xs[i]:=fun i h=>getElem!_pos xs i h
 have hcnt:(List.range n).countP (fun i=> !decide (0<cmpR (xs[i]!).r x.r))=xs.countP (fun y=> !befR x.r y.r):=by
  have e1:xs=(List.range n).map (fun i=>xs[i]!):=by
   refine List.ext_getElem (by simp [hn]) fun i h1 h2=> ?_
   rw [List.getElem_map,List.getElem_range,hp i h1]
  conv=>rhs;rw [e1,List.countP_map]
  refine List.countP_congr fun i hi=> ?_
  simp only [Function.comp]
  have e2:decide (0<cmpR (xs[i]!).r x.r)=befR x.r (xs[i]!).r:=by
   rw [Bool.eq_iff_iff,decide_eq_true_eq,cmpR_pos]
  rw [e2]
 refine (Any.sort_Search lay_search 131 #[.pointer (some ⟨pl,0,none⟩),.pointer (some ⟨pr,0,none⟩)] n (fun i=>decide (0<cmpR (xs[i]!).r x.r)) w (enters_of Tryz.func131 (by kernel_rfl) rfl) (by omega) ?_ ?_).mono ?_
 ·intro m os i hi
  have hi2:i<xs.length:=by omega
  have hb:=grow_below w m os
  have f: ∀{ad:Addr} {u:Value},w.cell? ad=some u→(Sort.grow (w.drewN m) os).cell? ad=some u:=fun hu=>(hb.cell (World.block_lt_of_cell? _ _ hu)).trans hu
  simp only [hp i hi2]
  have h2:=hr i hi2
  obtain ⟨y,hy⟩:=ex_eq xs[i]
  rw [hy] at h2 ⊢
  obtain ⟨⟨hol,vlt,str,ix,sz,day,ser,cnt,plc,root,pa,si,pt,sq⟩,ap,c1,aq,c2,ar,c3⟩:=x
  obtain ⟨⟨holB,vltB,strB,ixB,szB,dayB,serB,cntB,plB,rootB,paB,siB,ptB,sqB⟩,apB,c1B,aqB,c2B,arB,c3B⟩:=y
  simp only [RcV.cells] at hx h2
  exact addTest_any pl pr g n cap i hol vlt str ix sz day ser cnt plc root ap _ c1 si aq _ c2 ar _ c3 holB vltB strB ixB szB dayB serB cntB plB rootB apB _ c1B siB aqB _ c2B arB _ c3B hi hn2 _ ⟨f hl,⟨f (hx 0 (by decide)),f (hx 1 (by decide)),f (hx 2 (by decide)),f (hx 3 (by decide)),f (hx 4 (by decide)),f (hx 5 (by decide)),f (hx 6 (by decide)),f (hx 7 (by decide)),f (hx 8 (by decide)),f (hx 9 (by decide)),f (hx 10 (by decide)),f (hx 11 (by decide)),f (hx 12 (by decide)),f (hx 13 (by decide))⟩,f (h2 0 (by decide)),f (h2 1 (by decide)),f (h2 2 (by decide)),f (h2 3 (by decide)),f (h2 4 (by decide)),f (h2 5 (by decide)),f (h2 6 (by decide)),f (h2 7 (by decide)),f (h2 8 (by decide)),f (h2 9 (by decide)),f (h2 10 (by decide)),f (h2 11 (by decide)),f (h2 12 (by decide)),f (h2 13 (by decide))⟩
 ·intro a b hab hb ha
  have ha2:a<xs.length:=by omega
  have hb2:b<xs.length:=by omega
  simp only [decide_eq_true_eq,cmpR_pos,hp a ha2,hp b hb2] at ha ⊢
  rcases Nat.lt_or_eq_of_le hab with h | h
  ·exact befR_trans ha (List.pairwise_iff_getElem.1 hs a b ha2 hb2 h)
  ·subst h;exact ha
 ·rintro e w' ⟨rfl,q,os,rfl⟩
  exact ⟨by rw [hcnt],grow_below w q os⟩
/-! ### slices.SortFunc in Holder -/
theorem swoP:Sort.SWO (ltOf (fun a b:RcV=>cmpP a.r b.r)):=by
 have e: ∀a b:RcV,ltOf (fun a b:RcV=>cmpP a.r b.r) a b=ltP a.r b.r:=fun a b=>by
  unfold ltOf
  rw [Bool.eq_iff_iff,decide_eq_true_eq,cmpP_lt]
 refine ⟨fun x=>by rw [e];exact ltP_irrefl _,fun x y z h k=>by rw [e] at h k ⊢;exact ltP_trans h k,fun x y z h k=> ?_⟩
 rw [e] at h k ⊢
 cases hxz:ltP x.r z.r with
 | false=>rfl
 | true=>
   by_cases h1:x.r.pc=y.r.pc
   ·have h2:ltP y.r z.r=true:=by
       have e1:x.r.str=y.r.str:=congrArg Pc.s h1
       have e2:x.r.ix=y.r.ix:=congrArg Pc.i h1
       rw [ltP_iff] at hxz ⊢
       rw [← e1,← e2]
       exact hxz
    rw [h2] at k
    cases k
   ·rcases ltP_total h1 with h2 | h2
    ·rw [h2] at h;cases h
    ·rw [ltP_trans h2 hxz] at k
     cases k
theorem sortRc_any {base n:Nat} (v:Value) (xs:List RcV) (hn:xs.length=n) (hn2:n≤1000000) (hd:xs.Pairwise (fun a b=>a.r.pc≠b.r.pc)) (w:World) (h:w.ownsRow base 47 14 v n (rcv xs)) (hne: ∃bl cap,v= .slice (some ⟨bl,0,none⟩) n cap):
    Calls Tryz.prog 165 #[v,.func (.func 166) #[] #[]] w fun e w'=>e= .returned (.tuple #[])∧ ∃ys:List RcV,ys.Perm xs∧ys.Pairwise (fun a b=>ltP a.r b.r=true)∧w'.ownsRow base 47 14 v n (rcv ys)∧Chg (fun q _=>some q=v.ownBlock) w w':=by
 obtain ⟨bl,cap,rfl⟩:=hne
 subst hn
 have hH:=holdsK_rcv h
 have hblk:bl<w.heap.size:=by
  rcases h.2 with ⟨e,_⟩ | ⟨g,cap',cur,e,h1,h2,_⟩
  ·cases e
  ·injection e with e1 e2 e3
   injection e1 with e1
   injection e1 with e1
   subst e1
   exact (gS h2).1
 refine (AnyQ.slices_SortFunc lay_sortRc 14 (fun w=>by kernel_rfl) (fun w=>by kernel_rfl) RcV.cells RcV.len RcV.one (fun a b=>cmpP a.r b.r) swoP 166 #[] bl 0 cap xs.toArray w (enters_of Tryz.func166 (by kernel_rfl) rfl) ?_ hH hblk (by simp;omega)).mono ?_
 ·intro m os dk hdk x y
  obtain ⟨⟨hol,vlt,str,ix,sz,day,ser,cnt,pl,root,pa,si,pt,sq⟩,ap,c1,aq,c2,ar,c3⟩:=x
  obtain ⟨⟨holB,vltB,strB,ixB,szB,dayB,serB,cntB,plB,rootB,paB,siB,ptB,sqB⟩,apB,c1B,aqB,c2B,arB,c3B⟩:=y
  exact holdTest_any hol vlt str ix sz day ser cnt pl root ap _ c1 si aq _ c2 ar _ c3 holB vltB strB ixB szB dayB serB cntB plB rootB apB _ c1B siB aqB _ c2B arB _ c3B _
 ·rintro e w' ⟨rfl,d',m,os,hp,hso,rfl⟩
  have hsz:d'.size=xs.length:=by have:=hp.1;simpa using this
  have h1:=own_sortRc (m:=m) (os:=os) (ys:=d') h hsz
  have hperm:d'.toList.Perm xs:=by
   have h2:=hp.2.2
   rw [show xs.toArray.size=d'.size by rw [hsz];simp,Array.extract_size] at h2
   rw [show d'.size=xs.toArray.size by rw [hsz];simp,Array.extract_size] at h2
   exact h2
  refine ⟨rfl,d'.toList,hperm,?_,h1.1,h1.2.mono fun q _ _ e=>by rw [e];rfl⟩
  have hd2:d'.toList.Pairwise (fun a b=>a.r.pc≠b.r.pc):=(hperm.symm.pairwise_iff (fun {_ _} h=>Ne.symm h)).1 hd
  rw [List.pairwise_iff_getElem] at hd2 ⊢
  intro i j hi hj hij
  have h3:=hso i j (Nat.zero_le _) hij (by simpa [hsz] using hj)
  have hi':i<d'.size:=by simpa using hi
  have hj':j<d'.size:=by simpa using hj
  rw [getElem!_pos d' i hi',getElem!_pos d' j hj'] at h3
  unfold ltOf at h3
  have h4: ¬ltP d'[j].r d'[i].r=true:=fun h=>by
   rw [decide_eq_false_iff_not] at h3
   exact h3 (cmpP_lt.2 h)
  have h5:=hd2 i j hi hj hij
  simp only [Array.getElem_toList] at h5 ⊢
  exact (ltP_total h5).resolve_right h4
end Go.Proofs.YtndlihclgdkpaaaGreatDoor
