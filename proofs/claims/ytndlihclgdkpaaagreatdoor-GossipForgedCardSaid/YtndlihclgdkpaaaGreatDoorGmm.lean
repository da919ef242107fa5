/- gossip: Merge. -/
import Derived.Test.YtndlihclgdkpaaaGreatDoorGh
set_option linter.unusedVariables false
set_option linter.unusedSimpArgs false
open Go.Lib (hid)
namespace Go.Proofs.YtndlihclgdkpaaaGreatDoor
open Go.RowKit
open Kit (Chg)
open Sha (v)
open Go.Proofs.YtndlihclgdkpaaaGreatDoor.One

theorem sumV_any (x:EV) (hn:x.a=none→x.c=0) (w:World) (hB:BytesAt w x.a x.e.body) (hL:Laid w):
    Calls Tryz.prog 62 #[.agg #[.int .i64 x.e.dev,.int .i64 x.e.seq,.int .i64 x.e.kind,.int .i64 x.e.day,.slice x.a x.e.body.length x.c,.string x.e.prev]] w fun e w'=> ∃(u:ByteArray) (er:Int),e= .returned (.tuple #[.string u,.int .i64 er])∧((validE x.e=true∧er=0∧nb u=sumE x.e∧u.size=32)∨(validE x.e=false∧er=1))∧Below w.heap.size w w':=by
 obtain ⟨⟨dv,sq,kd,dy,bs,p⟩,a,c⟩:=x
 by_cases hv:validE ⟨dv,sq,kd,dy,bs,p⟩=true
 ·have hvv:=(validE_iff _).1 hv
  obtain ⟨d0,rfl⟩: ∃d:Nat,dv=(d:Int):=⟨dv.toNat,by have:=hvv.dev0;simp only at this;omega⟩
  obtain ⟨d1,rfl⟩: ∃d:Nat,sq=(d:Int):=⟨sq.toNat,by have:=hvv.seq0;simp only at this;omega⟩
  obtain ⟨d2,rfl⟩: ∃d:Nat,kd=(d:Int):=⟨kd.toNat,by have:=hvv.kind0;simp only at this;omega⟩
  obtain ⟨d3,rfl⟩: ∃d:Nat,dy=(d:Int):=⟨dy.toNat,by have:=hvv.day0;simp only at this;omega⟩
  refine (sum_ok d0 d1 d2 d3 a bs.length c p bs rfl hn hvv _ rfl w hB hL).mono ?_
  rintro e w' ⟨u,rfl,h1,h2,h3⟩
  exact ⟨u,0,rfl,.inl ⟨hv,rfl,h1,h2⟩,h3⟩
 ·have hvf:validE ⟨dv,sq,kd,dy,bs,p⟩=false:=by cases h:validE ⟨dv,sq,kd,dy,bs,p⟩ with | true=>exact absurd h hv | false=>rfl
  refine (sum_bad dv sq kd dy a bs.length c p bs rfl hvf w).mono ?_
  rintro e w' ⟨rfl,h3⟩
  exact ⟨_,1,rfl,.inr ⟨hvf,rfl⟩,h3⟩
theorem stepM_bound {gv:List Nat→Option Ent} (hg: ∀s e,gv s=some e→ValidE e∧sumE e=s) (B H:Int) (ls:List Lin) (h:Hd):(stepM B H gv ls h).2≤4096:=by
 unfold stepM
 split
 ·split
  ·unfold mergeL
   split
   ·exact Nat.zero_le _
   ·rename_i l _ _ b es hf
    obtain ⟨_,_,h3⟩:=findL_len hg hf
    split
    ·exact Nat.zero_le _
    ·split
     ·exact Nat.zero_le _
     ·refine Nat.le_trans (Nat.sub_le _ _) ?_
      omega
  ·exact Nat.zero_le _
 ·exact Nat.zero_le _
def BigH (h:Hd):Prop:=h.ps.length<9223372036854775808∧h.qs.length<9223372036854775808
theorem SmallH.big {h:Hd} (hh:SmallH h):BigH h:=⟨Nat.lt_of_le_of_lt hh.1 (by decide),Nat.lt_of_le_of_lt hh.2 (by decide)⟩
theorem signed_small {B H:Int} {pk:List Nat} {h:Hd} (hs:SignedH B H pk h):SmallH h:=by
 obtain ⟨⟨hv,_,_,_,h1,_,h2,_⟩,_⟩:=hs.2
 obtain ⟨b,t,rfl,rfl,hb,_,ht⟩:=sv_of hv
 rw [List.length_map,Int.toNat_natCast] at h2
 rw [List.length_map] at h1
 have hc:count b 32≤1000:=by rcases hb with rfl | rfl | rfl | rfl<;> decide+kernel
 exact ⟨by omega,by omega⟩
theorem stepM_good2 {B H:Int} {gv:List Nat→Option Ent} {ls:List Lin} {h:Hd} (hg: ∀s e,gv s=some e→ValidE e∧sumE e=s) (hl:GoodS B H ls):GoodS B H (stepM B H gv ls h).1∧KeptS ls (stepM B H gv ls h).1:=by
 by_cases hh:SmallH h
 ·exact stepM_good hg hl hh
 ·have e:stepM B H gv ls h=(ls,0):=by
     unfold stepM
     cases e:ls[h.dev.toNat]? with
     | none=>rfl
     | some l=>
       simp only
       rw [if_neg (fun hc=>hh (signed_small hc.2))]
  rw [e]
  exact ⟨hl,KeptS.refl _⟩
theorem foldM_go2 {B H:Int} {gv:List Nat→Option Ent} (hg: ∀s e,gv s=some e→ValidE e∧sumE e=s): ∀(hs:List Hd) (ls:List Lin) (n:Nat),GoodS B H ls→GoodS B H (hs.foldl (fun q h=>((stepM B H gv q.1 h).1,q.2+(stepM B H gv q.1 h).2)) (ls,n)).1∧KeptS ls (hs.foldl (fun q h=>((stepM B H gv q.1 h).1,q.2+(stepM B H gv q.1 h).2)) (ls,n)).1
 | [],ls,n,hl=>⟨hl,KeptS.refl _⟩
 | h::hs,ls,n,hl=>by
   rw [List.foldl_cons]
   obtain ⟨m1,m2⟩:=stepM_good2 (h:=h) hg hl
   obtain ⟨k1,k2⟩:=foldM_go2 hg hs _ (n+(stepM B H gv ls h).2) m1
   exact ⟨k1,m2.trans k2⟩
theorem foldM_good2 {B H:Int} {gv:List Nat→Option Ent} {ls:List Lin} (hg: ∀s e,gv s=some e→ValidE e∧sumE e=s) (hl:GoodS B H ls) (hs:List Hd):GoodS B H (foldM B H gv ls hs).1∧KeptS ls (foldM B H gv ls hs).1:=foldM_go2 hg hs ls 0 hl
theorem foldM_bound {gv:List Nat→Option Ent} (hg: ∀s e,gv s=some e→ValidE e∧sumE e=s) (B H:Int) (ls:List Lin) (hs:List Hd):(foldM B H gv ls hs).2≤4096*hs.length:=by
 have go: ∀(hs:List Hd) (ls:List Lin) (n:Nat),(hs.foldl (fun q h=>((stepM B H gv q.1 h).1,q.2+(stepM B H gv q.1 h).2)) (ls,n)).2≤n+4096*hs.length:=by
  intro hs
  induction hs with
  | nil=>intro ls n;exact Nat.le_refl _
  | cons h hs ih=>
    intro ls n
    rw [List.foldl_cons]
    have h1:=ih (stepM B H gv ls h).1 (n+(stepM B H gv ls h).2)
    have h2:=stepM_bound hg B H ls h
    rw [List.length_cons]
    simp only at h1 ⊢
    omega
 have:=go hs ls 0
 unfold foldM
 omega
def foldK (B H:Int) (gv:List Nat→Option Ent) (ls:List Lin) (zs:List HV) (k:Nat):List Lin × Nat:=foldM B H gv ls ((zs.take k).map HV.h)
theorem foldK_succ {B H:Int} {gv:List Nat→Option Ent} {ls:List Lin} {zs:List HV} {k:Nat} {y:HV} (h:zs[k]? =some y):foldK B H gv ls zs (k+1)=((stepM B H gv (foldK B H gv ls zs k).1 y.h).1,(foldK B H gv ls zs k).2+(stepM B H gv (foldK B H gv ls zs k).1 y.h).2):=by
 unfold foldK
 rw [List.take_add_one,h,List.map_append]
 exact foldM_snoc _ _ _ _ _ _
theorem stepM_out {B H:Int} {gv:List Nat→Option Ent} {ls:List Lin} {h:Hd} (hn: ¬(0≤h.dev∧h.dev<(ls.length:Int))):stepM B H gv ls h=(ls,0):=by
 unfold stepM
 split
 ·rename_i l hl
  have h1:=(List.getElem?_eq_some_iff.1 hl).1
  rw [if_neg (fun hc=>hn ⟨hc.1,by omega⟩)]
 ·rfl
theorem stepM_bad {B H:Int} {gv:List Nat→Option Ent} {ls:List Lin} {h:Hd} {d:Nat} (hd:h.dev=(d:Int)) (hl:d<ls.length) (hn: ¬SignedH B H (nb ls[d].pub) h):stepM B H gv ls h=(ls,0):=by
 unfold stepM
 rw [show h.dev.toNat=d by rw [hd];rfl,lE hl]
 simp only
 rw [if_neg (fun hc=>hn hc.2)]
theorem stepM_in {B H:Int} {gv:List Nat→Option Ent} {ls:List Lin} {h:Hd} {d:Nat} (hd:h.dev=(d:Int)) (hl:d<ls.length) (hs:SignedH B H (nb ls[d].pub) h):stepM B H gv ls h=(ls.set d (mergeL ls[d] gv h).1,(mergeL ls[d] gv h).2):=by
 unfold stepM
 rw [show h.dev.toNat=d by rw [hd];rfl,lE hl]
 simp only
 rw [if_pos ⟨by rw [hd];omega,hs⟩]
def EVsAt (w:World) (a:Option Addr) (xs:List EV):Prop:=(a=none∧xs=[])∨ ∃b o,a=some ⟨b,o,none⟩∧ ∀j u,(evs xs)[j]? =some u→w.cell? ⟨b,o+j,none⟩=some u
theorem EVsAt.later {w w':World} {a:Option Addr} {xs:List EV} (h:EVsAt w a xs) (hb:Below w.heap.size w w'):EVsAt w' a xs:=by
 rcases h with h | ⟨b,o,e,hc⟩
 ·exact .inl h
 ·exact .inr ⟨b,o,e,fun j u hj=>(hb.cell (World.block_lt_of_cell? w _ (hc j u hj))).trans (hc j u hj)⟩
theorem EVsAt.cells {w:World} {b o:Nat} {xs:List EV} (hc: ∀j u,(evs xs)[j]? =some u→w.cell? ⟨b,o+j,none⟩=some u) (k:Nat) (hk:k<xs.length) (j:Nat) (u:Value) (hj:(xs[k]).cells[j]? =some u):w.cell? ⟨b,o+k*6+j,none⟩=some u:=by
 have hj6:j<6:=(List.getElem?_eq_some_iff.1 hj).1
 have h1:=sixes_get (f:=EV.cells) (fun _=>rfl) xs k hk j hj6
 rw [Nat.add_assoc]
 exact hc _ _ (h1.trans hj)
def MT (s:Nat):Nat→Prop:=fun t=>s<t∧t≤s+50
structure MergeSt (wr w:World) (G G':Nat→Nat) (s p N0 mb mn:Nat) (B H:Int) (ls':List Lin) (xs0:List EV) (v:Value) (n:Nat) (zs:List HV):Prop where
 store:StoreAt wr G' s p B H ls'
 own:Own wr G' N0
 step:Step G G' (MT s) w wr
 map:MapE wr mb mn xs0
 mtag:G' mb=0
 row:wr.ownsRow 0 94 6 v n (hvs zs)
 rtag: ∀b,v.ownBlock=some b→G' b=0
 cond: ∀k,G' k=G k∨(s≤G' k∧G' k≤s+50)
section
variable {wr w w':World} {G G':Nat→Nat} {s p N0 mb mn:Nat} {B H:Int} {ls':List Lin} {xs0:List EV} {v:Value} {n:Nat} {zs:List HV}
theorem MergeSt.later (h:MergeSt wr w G G' s p N0 mb mn B H ls' xs0 v n zs) (hb:Below wr.heap.size wr w'):MergeSt w' w G G' s p N0 mb mn B H ls' xs0 v n zs:=
 ⟨h.store.later hb,h.own.later hb.size,h.step.later hb,h.map.later hb,h.mtag,own_later h.row hb,h.rtag,h.cond⟩
theorem MergeSt.merge (h:MergeSt wr w G G' s p N0 mb mn B H ls' xs0 v n zs) {vr:Value} {gs:List Nat} (hS:StoreR wr G' s p B H ls' vr gs) (d:Nat) (hd:d<ls'.length) (hd11:d≤11) (h0:0<s) (l':Lin) {G2:Nat→Nat} (hl:LineAt w' G2 (s+1+d) (gs.getD d 0) l') (hO:Own w' G2 N0) (hs:Step G' G2 (fun t=>t=s+1+d) wr w') (hc: ∀k,G2 k=G' k∨(s≤G2 k∧G2 k≤s+50)):MergeSt w' w G G2 s p N0 mb mn B H (ls'.set d l') xs0 v n zs:=by
 have hmb:mb<wr.heap.size:=h.map.lt
 obtain ⟨r1,r2⟩:=own_step h.row h.rtag hs (by omega)
 refine ⟨⟨vr,gs,hS.put d hd l' hs h0 hl⟩,hO,h.step.trans (hs.mono fun t e=>by subst e;exact ⟨by omega,by omega⟩),h.map.step hs (by rw [h.mtag];omega),(hs.tag mb hmb).trans h.mtag,r1,r2,fun k=> ?_⟩
 rcases hc k with e | e
 ·rw [e];exact h.cond k
 ·exact .inr e
end

set_option maxRecDepth 100000 in
set_option maxHeartbeats 2000000 in
theorem storeMerge_any {G:Nat→Nat} {s p N0:Nat} {B H:Int} {ls:List Lin} (xs0:List EV) (ys:List HV) (a1:Option Addr) (c1 LE:Nat) (a2:Option Addr) (c2 LH:Nat) (hLE:xs0.length=LE) (hLH:ys.length=LH) (hE4:LE≤4096) (hH4:LH≤19) (hl:ls.length≤12) (h7:7<s) (hN4:3≤N0) (hG:GoodS B H ls) (w:World) (hE:EVsAt w a1 xs0) (hY:HeadsAt w a2 ys) (hxo: ∀x ∈ xs0,x.ok w G∧x.e.body.length≤1000000000) (hyo: ∀y ∈ ys,y.ok w G∧BigH y.h) (h:StoreAt w G s p B H ls) (hO:Own w G N0) (hL:Laid w):
    Calls Tryz.prog 61 #[.pointer (some ⟨p,0,none⟩),.slice a1 LE c1,.slice a2 LH c2] w fun e w'=> ∃(G':Nat→Nat) (hs:List Hd) (gr:Nat),e= .returned (.tuple #[.int .i64 (gr:Int),.int .i64 0])∧hs.Perm (ys.map HV.h)∧gr=(foldM B H (givenOf (xs0.map EV.e)) ls hs).2∧
     StoreAt w' G' s p B H (foldM B H (givenOf (xs0.map EV.e)) ls hs).1∧Own w' G' N0∧Step G G' (MT s) w w'∧(∀k,G' k=G k∨(s≤G' k∧G' k≤s+50)):=by
 have HSA:=hid h
 have HE:=hid hE
 have HY:=hid hY
 have HXO:=hid hxo
 have HYO:=hid hyo
 have HO:=hid hO
 have HL:=hid hL
 have HG:=hid hG
 have HLE:=hid hLE
 have HLH:=hid hLH
 have HB:Hid (LE≤4096∧LH≤19∧ls.length≤12∧7<s∧3≤N0):=hid ⟨hE4,hH4,hl,h7,hN4⟩
 have hi1: ¬(4096:Int)<(LE:Int):=by omega
 have hi2: ¬(256:Int)<(LH:Int):=by omega
 obtain ⟨gv,hgv⟩:=ex_eq (givenOf (xs0.map EV.e))
 have HGV:=hid hgv
 have HGO:Hid (∀s e,gv s=some e→ValidE e∧sumE e=s):=hid (by rw [← hgv];exact givenOf_ok _)
 rw [hgv]
 clear h hE hY hxo hyo hO hL hG hLE hLH hl h7 hN4 hgv
 have hmm:= @run_makeMap Tryz.prog
 go_enter Tryz.func61,Tryz.ntmps61
 go_upto_region 4 with fail
 clear hi1 hi2 hmm
 refine wp_over (fun W=>Hid (MapE W w.heap.size 0 [])∧Hid (Below w.heap.size w W)∧Hid (W.heap.size=w.heap.size+1)) ⟨MapG.start w,(Below.refl _ _).alloc (Nat.le_refl _) _,by show _=_;simp⟩ ?_
 rintro W ⟨HM0,HB0,HW0⟩
 obtain ⟨M,hM⟩:=ex_eq w.heap.size
 have HM:=hid hM
 rw [hM] at HM0 HB0 HW0 ⊢
 clear hM
 go_upto_region 5 with fail
 go_loopw [28] (fun kv wr=> ∃k nk:Nat,kv= .int .i64 (k:Int)∧k≤LE∧nk≤k∧Hid (MapE wr M nk (xs0.take k))∧Hid (Below M w wr)) (fun kv _=>LE - (intOf kv).toNat)
 case atStart=>exact ⟨0,0,rfl,by omega,by omega,HM0,HB0⟩
 case round=>
  obtain ⟨k,nk,rfl,hk,hnk,HMP,HBW⟩:=hrel
  by_cases hlt:k<LE
  ·have hki:(k:Int)<(LE:Int):=by omega
   have HKL:Hid (k<xs0.length):=hid (by rw [HLE.o];exact hlt)
   obtain ⟨be,oe,rfl,hce⟩: ∃b o,a1=some ⟨b,o,none⟩∧ ∀j u,(evs xs0)[j]? =some u→wr.cell? ⟨b,o+j,none⟩=some u:=by
    rcases HE.o.later (by rw [HM.o];exact HBW.o) with ⟨_,h⟩ | h
    ·have:=HLE.o;rw [h] at this;simp at this;omega
    ·exact h
   obtain ⟨x,hx⟩: ∃x,x=xs0[k]'HKL.o:=⟨_,rfl⟩
   have hcell:=fun j u hj=>EVsAt.cells hce k HKL.o j u hj
   rw [← hx] at hcell
   have HXX:Hid (xs0[k]? =some x):=hid (by rw [lE HKL.o,hx])
   have HXK:Hid (x.ok w G):=hid (by rw [hx];exact (HXO.o _ (List.getElem_mem _)).1)
   have HXN:Hid (x.a=none→x.c=0):=hid HXK.o.1
   have c0:=hcell 0 _ rfl
   have c1':=hcell 1 _ rfl
   have c2':=hcell 2 _ rfl
   have c3:=hcell 3 _ rfl
   have c4:=hcell 4 _ rfl
   have c5:=hcell 5 _ rfl
   rw [Nat.add_zero] at c0
   clear hcell hce hx
   go_upto_region 7 with fail
   obtain ⟨X,hX⟩:=ex_eq wr.heap.size
   have HXM:Hid (M<X):=hid (by rw [← hX];exact HMP.o.lt)
   refine wp_over (fun V=>Hid (V.heap[X]? =some (.cells #[.int .i64 x.e.dev,.int .i64 x.e.seq,.int .i64 x.e.kind,.int .i64 x.e.day,.slice x.a x.e.body.length x.c,.string x.e.prev] 92 (0,0)))∧Hid (MapE V M nk (xs0.take k))∧Hid (Below M w V)) ⟨by rw [← hX];exact heap_alloc_new wr _,HMP.o.later ((Below.refl _ wr).alloc (Nat.le_refl _) _),HBW.o.alloc (by have:=HXM.o;show M≤wr.heap.size;omega) _⟩ ?_
   rw [hX]
   clear hX c0 c1' c2' c3 c4 c5 HMP HBW
   rintro V ⟨HXV,HMP,HBW⟩
   obtain ⟨c0,c1',c2',c3,c4,c5⟩:=row6 HXV.o
   have HLV:Hid (Laid V):=hid (HL.o.later (by rw [HM.o];exact HBW.o) (Nat.le_refl _))
   have HBX:Hid (BytesAt V x.a x.e.body):=hid (HXK.o.2.1.later (by rw [HM.o];exact HBW.o))
   go_upto_region 8 with (first
    | (go_at_call 62
       (with_reducible refine (sumV_any x HXN.o V HBX.o HLV.o).mono ?_)
       rintro e w5 ⟨u5,er,rfl,hu5,h5⟩
       have HU5:=hid hu5
       have H5:=hid h5
       clear hu5 h5 c0 c1' c2' c3 c4 c5))
   have HM5:Hid (MapE w5 M nk (xs0.take k)):=hid (HMP.o.later H5.o)
   have HX5:Hid (w5.heap[X]? =some (.cells #[.int .i64 x.e.dev,.int .i64 x.e.seq,.int .i64 x.e.kind,.int .i64 x.e.day,.slice x.a x.e.body.length x.c,.string x.e.prev] 92 (0,0))):=hid ((H5.o.block X (gS HXV.o).1).trans HXV.o)
   have HB5:Hid (Below M w w5):=hid (HBW.o.trans (H5.o.mono (by have:=HXM.o;have:=(gS HXV.o).1;omega)))
   obtain ⟨c0,c1',c2',c3,c4,c5⟩:=row6 HX5.o
   have HTK:Hid (xs0.take (k+1)=xs0.take k++[x]):=hid (by rw [List.take_add_one,HXX.o];rfl)
   rcases HU5.o with ⟨hv,rfl,hu,hz⟩ | ⟨hv,rfl⟩
   ·have HHV:=hid hv
    have HHU:=hid hu
    have HHZ:=hid hz
    clear hv hu hz HU5
    obtain ⟨w6,hr6,hm6,hg6⟩:=MapE.put HM5.o (by unfold maxLen;omega) HHV.o u5 HHU.o (by have:=HHZ.o;unfold maxLen;omega)
    have HM6:=hid hm6
    have HG6:=hid hg6
    have hr6':(Instr.mapUpdate 226 (.map (some M)) (.string u5) (.agg #[.int .i64 x.e.dev,.int .i64 x.e.seq,.int .i64 x.e.kind,.int .i64 x.e.day,.slice x.a x.e.body.length x.c,.string x.e.prev])).run Tryz.prog w5= .ok () w6:=hr6
    clear hr6 hm6 hg6
    go_wp2_with fail
    go_roundw
    case rel=>exact ⟨k+1,nk+1,by go_num,hlt,by omega,by rw [HTK.o];exact HM6,hid (HB5.o.trans ((Below.refl _ w5).grown HG6.o (by have:=MapG.lt HM5.o;omega) (fun j hj=>by injection hj with hj;omega)))⟩
    case measure=>simp [intOf];omega
   ·have HHV:=hid hv
    clear hv HU5
    go_wp2_with fail
    go_roundw
    case rel=>exact ⟨k+1,nk,by go_num,hlt,by omega,by rw [HTK.o];exact hid (MapE.bad HM5.o HHV.o),HB5⟩
    case measure=>simp [intOf];omega
  ·have hki: ¬(k:Int)<(LE:Int):=by omega
   obtain rfl:k=LE:=by omega
   have HMF:Hid (MapE wr M nk xs0):=hid (by have:=HMP.o;rwa [List.take_of_length_le (by rw [HLE.o];exact Nat.le_refl _)] at this)
   have HM2:Hid (M<wr.heap.size):=hid (MapG.lt HMF.o)
   go_upto_region 12 with (first
    | (go_at_call 149
       (with_reducible refine (cloneHeads_any a2 LH c2 ys HLH.o (by have:=HB.o;omega) wr (HY.o.later (by rw [HM.o];exact HBW.o))).mono ?_)
       rintro e w2 ⟨v2,rfl,ho2,hb2⟩
       have HO2:=hid ho2
       have HB2:=hid hb2
       clear ho2 hb2))
   obtain ⟨az,cz,hv2⟩: ∃a c,v2= .slice a LH c:=by
    rcases own_cases HO2.o with ⟨e,e0⟩ | ⟨bl,cap,e⟩
    ·exact ⟨none,0,by rw [e,e0]⟩
    ·exact ⟨_,_,e⟩
   subst hv2
   go_upto_region 13 with (first
    | (go_at_call 150
       (with_reducible refine (sortHeads_any (.slice az LH cz) ys HLH.o (by have:=HB.o;omega) w2 HO2.o).mono ?_)
       rintro e w3 ⟨rfl,zs,hp3,ho3,hc3⟩
       have HP3:=hid hp3
       have HO3:=hid ho3
       have HC3:=hid hc3
       clear hp3 ho3 hc3))
   have HZL:Hid (zs.length=LH):=hid (by rw [HP3.o.length_eq,HLH.o])
   have HZY:Hid (∀z ∈ zs,z.ok w G∧BigH z.h):=hid (fun z hz=>HYO.o z (HP3.o.mem_iff.1 hz))
   have HBZ:Hid (Below M w w3):=hid ((HBW.o.trans (HB2.o.mono (by have:=HM2.o;omega))).trans (HC3.o.below (by have:=HBW.o.size;rw [HM.o] at this;have:=HB2.o.size;omega) (fun k i hk e=>by have:=(HO2.o.lt _ e.symm).1;have:=HM2.o;omega)))
   have HST0:Hid (MergeSt w3 w G G s p N0 M nk B H ls xs0 (.slice az LH cz) LH zs):=hid (by
    have hw:=HBZ.o
    have hm:=HM.o
    rw [← hm] at hw
    refine ⟨HSA.o.later hw,HO.o.later hw.size,Step.of_below hw _ _,?_,HO.o.hi M (by omega),own_base HO3.o (Nat.zero_le _),fun b hb=>HO.o.hi b (by have:=(HO2.o.lt b hb).1;have:=HM2.o;omega),fun _=> .inl rfl⟩
    exact MapG.keep (MapG.later HMF.o HB2.o) (HC3.o.other M (by have:=HM2.o;have:=HB2.o.size;omega) (fun i e=>by have:=(HO2.o.lt _ e.symm).1;have:=HM2.o;omega)))
   clear HC3 HO3 HO2 HB2 HMF HMP HBW hki hlt
   go_upto_region 15 with fail
   go_loopw [49,14] (fun kv gr wr=> ∃k:Nat,kv= .int .i64 (k:Int)∧k≤LH∧gr= .int .i64 (((foldK B H gv ls zs k).2:Nat):Int)∧Hid (∃G',MergeSt wr w G G' s p N0 M nk B H (foldK B H gv ls zs k).1 xs0 (.slice az LH cz) LH zs)) (fun kv _ _=>LH - (intOf kv).toNat)
   case atStart=>exact ⟨0,rfl,by omega,rfl,hid ⟨G,HST0.o⟩⟩
   case round=>
    rename World=>wr
    obtain ⟨k,rfl,hk,rfl,HST⟩:=hrel
    obtain ⟨G1,hst⟩:=HST.o
    have HS1:=hid hst
    clear hst HST
    obtain ⟨lk,hlk⟩:=ex_eq (foldK B H gv ls zs k).1
    obtain ⟨gk,hgk⟩:=ex_eq (foldK B H gv ls zs k).2
    have HGB:Hid (gk≤4096*k):=hid (by rw [← hgk];unfold foldK;have:=foldM_bound HGO.o B H ls ((zs.take k).map HV.h);rw [List.length_map,List.length_take] at this;have h2:min k zs.length≤k:=Nat.min_le_left _ _;omega)
    have HGK:Hid (GoodS B H lk∧lk.length=ls.length):=hid (by
     obtain ⟨m1,m2⟩:=foldM_good2 HGO.o HG.o ((zs.take k).map HV.h)
     have hlk':=hlk
     unfold foldK at hlk'
     rw [hlk'] at m1 m2
     exact ⟨m1,m2.len⟩)
    have HLK:=hid hlk
    have HGKE:=hid hgk
    rw [hlk] at HS1
    rw [hgk]
    clear hlk hgk
    by_cases hlt:k<LH
    ·have hki:(k:Int)<(LH:Int):=by omega
     have HKL:Hid (k<zs.length):=hid (by rw [HZL.o];exact hlt)
     obtain ⟨hnz,aq,cq,he7,_,_,_,hc7⟩:=sixes_cells (f:=HV.cells) (fun _=>rfl) HS1.o.row
     clear hnz
     obtain ⟨bz,hbz,_,hj7⟩:=hc7 k HKL.o
     have e7:az=aq:=by injection he7
     rw [← e7] at hbz
     subst hbz
     obtain ⟨y,hy⟩: ∃y,y=zs[k]'HKL.o:=⟨_,rfl⟩
     rw [← hy] at hj7
     have HYE:Hid (zs[k]? =some y):=hid (by rw [lE HKL.o,hy])
     have HYM:Hid (y ∈ zs):=hid (by rw [hy];exact List.getElem_mem _)
     have c0:wr.cell? ⟨bz,k*6,none⟩=some (.int .i64 y.h.dev):=hj7 0 (by decide)
     have c1':wr.cell? ⟨bz,k*6+1,none⟩=some (.int .i64 y.h.seq):=hj7 1 (by decide)
     have c2':wr.cell? ⟨bz,k*6+2,none⟩=some (.string y.h.sum):=hj7 2 (by decide)
     have c3:wr.cell? ⟨bz,k*6+3,none⟩=some (.int .i64 y.h.idx):=hj7 3 (by decide)
     have c4:wr.cell? ⟨bz,k*6+4,none⟩=some (.slice y.a1 y.h.ps.length y.c1):=hj7 4 (by decide)
     have c5:wr.cell? ⟨bz,k*6+5,none⟩=some (.slice y.a2 y.h.qs.length y.c2):=hj7 5 (by decide)
     clear hj7 hc7 e7 hy
     go_upto_region 17 with fail
     obtain ⟨Y,hY⟩:=ex_eq wr.heap.size
     refine wp_over (fun V=>Hid (V.heap[Y]? =some (.cells #[.int .i64 y.h.dev,.int .i64 y.h.seq,.string y.h.sum,.int .i64 y.h.idx,.slice y.a1 y.h.ps.length y.c1,.slice y.a2 y.h.qs.length y.c2] 94 (0,0)))∧Hid (MergeSt V w G G1 s p N0 M nk B H lk xs0 (.slice (some ⟨bz,0,none⟩) LH cz) LH zs)) ⟨by rw [← hY];exact heap_alloc_new wr _,hid (HS1.o.later ((Below.refl _ wr).alloc (Nat.le_refl _) _))⟩ ?_
     have HYT0:Hid (G1 Y=0):=hid (HS1.o.own.hi Y (by omega))
     rw [hY]
     clear hY c0 c1' c2' c3 c4 c5 HS1
     rintro V ⟨HYV,HS1⟩
     have HFS:Hid (foldK B H gv ls zs (k+1)=((stepM B H gv lk y.h).1,gk+(stepM B H gv lk y.h).2)):=hid (by
      rw [foldK_succ HYE.o,HLK.o,HGKE.o])
     have HB12:Hid (lk.length≤12):=hid (by have:=HGK.o.2;have:=HB.o;omega)
     have HHA:=hid (fun V h=>has_any (G:=G1) (s:=s) (p:=p) (B:=B) (H:=H) (ls:=lk) y.h.dev V h (by have:=HB12.o;omega))
     by_cases hin:0≤y.h.dev∧y.h.dev<(lk.length:Int)
     ·obtain ⟨d,hdd⟩: ∃d:Nat,y.h.dev=(d:Int):=⟨y.h.dev.toNat,by omega⟩
      have HDV:=hid hdd
      have hdl:d<lk.length:=by omega
      have hd11:d≤11:=by have:=HB12.o;omega
      rw [decide_eq_true hin] at HHA
      rw [hdd] at HYV HHA
      clear hin hdd
      have HDL:Hid (d<lk.length∧d≤11):=hid ⟨hdl,hd11⟩
      clear hd11
      have HSV:Hid (MergeSt V.drew w G G1 s p N0 M nk B H lk xs0 (.slice (some ⟨bz,0,none⟩) LH cz) LH zs):=hid (HS1.o.later (Below.refl _ V).drew)
      have HYD:Hid (V.drew.heap[Y]? =some (.cells #[.int .i64 (d:Int),.int .i64 y.h.seq,.string y.h.sum,.int .i64 y.h.idx,.slice y.a1 y.h.ps.length y.c1,.slice y.a2 y.h.qs.length y.c2] 94 (0,0))):=HYV
      obtain ⟨U,hU⟩:=ex_eq V.drew
      rw [hU] at HSV HYD
      obtain ⟨vr,gs,hsr⟩:=HSV.o.store
      have HSR:=hid hsr
      obtain ⟨_,a0,cap,hvr,hca,hnil,hpt⟩:=ptrs_of_own hsr.lines
      have hdg:d<gs.length:=by rw [hsr.len];exact hdl
      obtain ⟨b0,e0,hck⟩:=hpt d hdg
      subst e0
      subst hvr
      obtain ⟨n,hn⟩:=ex_eq gs.length
      have hdi:(d:Int)<(n:Int):=by omega
      have hd0:(0:Int)≤(d:Int):=by omega
      obtain ⟨g,hg⟩:=ex_eq (gs.getD d 0)
      have HGE:=hid hg
      have HNE:=hid hn
      rw [hg] at hck
      obtain ⟨vl,vs,ss,hx,f0,f1,f2,f3,f4,f5,f6,f7,f8,f9,f10,f11,f12,f13,f14,hln⟩:=line_at hsr d hdl
      obtain ⟨l,hll⟩: ∃l,l=lk[d]:=⟨_,rfl⟩
      rw [← hll] at hln
      rw [hg] at hln
      have HLL:Hid (∀h,lk[d]'h=l):=hid (fun _=>hll.symm)
      have HLN:=hid hln
      have HCK:=hid hck
      have HRS:Hid (U.heap[p]? =some (.cells #[.int .i64 B,.int .i64 H,.slice (some ⟨b0,0,none⟩) n cap] 217 (0,0))):=hid (by rw [← hn];exact hsr.row)
      clear hsr hca hnil hpt hdg hck hg hln hll hn
      have HS17:Hid (∀V,Below U.heap.size U V→(V.cell? ⟨Y,0,none⟩=some (.int .i64 (d:Int))∧V.cell? ⟨Y,1,none⟩=some (.int .i64 y.h.seq)∧V.cell? ⟨Y,2,none⟩=some (.string y.h.sum)∧V.cell? ⟨Y,3,none⟩=some (.int .i64 y.h.idx)∧V.cell? ⟨Y,4,none⟩=some (.slice y.a1 y.h.ps.length y.c1)∧V.cell? ⟨Y,5,none⟩=some (.slice y.a2 y.h.qs.length y.c2))∧V.cell? ⟨p,0,none⟩=some (.int .i64 B)∧V.cell? ⟨p,1,none⟩=some (.int .i64 H)∧V.cell? ⟨p,2,none⟩=some (.slice (some ⟨b0,0,none⟩) n cap)∧V.cell? ⟨b0,d,none⟩=some (.pointer (some ⟨g,0,none⟩))∧V.cell? ⟨g,0,none⟩=some (.string l.pub)):=hid (fun V hV=>by
       obtain ⟨p0,p1,p2,_⟩:=store_cells ((hV.block p (gS HRS.o).1).trans HRS.o)
       obtain ⟨m0,_⟩:=line_cells ((hV.block g (gS HLN.o.row).1).trans HLN.o.row)
       exact ⟨row6 ((hV.block Y (gS HYD.o).1).trans HYD.o),p0,p1,p2,(hV.cell (World.block_lt_of_cell? U _ HCK.o)).trans HCK.o,m0⟩)
      have HYOK:Hid ((StrsAt U y.a1 y.h.ps∧StrsAt U y.a2 y.h.qs)∧BigH y.h∧y.ok U G1):=hid (by
       obtain ⟨k1,k2⟩:=HZY.o y HYM.o
       have h1:=k1.step HSV.o.step (fun h=>by unfold MT at h;omega)
       exact ⟨⟨h1.1,h1.2.1⟩,k2,h1⟩)
      have HYS:Hid (BigH y.h):=hid HYOK.o.2.1
      have HLU:Hid (Laid U):=hid (Laid.low HL.o (HSV.o.step.below HO.o (fun h=>by unfold MT at h;omega) (fun h=>by unfold MT at h;have:=HB.o;omega)) HB.o.2.2.2.2)
      have HVF:=hid (fun hP hQ hL=>verifyH_any l.pub B H y HYS.o.1 HYS.o.2 U hP hQ hL)
      rw [HDV.o] at HVF
      obtain ⟨t17,p0,p1,p2,q0,m0⟩:=HS17.o U (Below.refl _ _)
      obtain ⟨h0,h1,h2,h3,h4,h5⟩:=t17
      by_cases hsg:SignedH B H (nb l.pub) y.h
      ·rw [decide_eq_true hsg] at HVF
       have HSG:=hid hsg
       clear hsg
       refine Kit.wp_region_hplan (fun V=>(V.cell? ⟨Y,0,none⟩=some (.int .i64 (d:Int))∧V.cell? ⟨Y,1,none⟩=some (.int .i64 y.h.seq)∧V.cell? ⟨Y,2,none⟩=some (.string y.h.sum)∧V.cell? ⟨Y,3,none⟩=some (.int .i64 y.h.idx)∧V.cell? ⟨Y,4,none⟩=some (.slice y.a1 y.h.ps.length y.c1)∧V.cell? ⟨Y,5,none⟩=some (.slice y.a2 y.h.qs.length y.c2))∧V.cell? ⟨p,0,none⟩=some (.int .i64 B)∧V.cell? ⟨p,1,none⟩=some (.int .i64 H)∧V.cell? ⟨p,2,none⟩=some (.slice (some ⟨b0,0,none⟩) n cap)∧V.cell? ⟨b0,d,none⟩=some (.pointer (some ⟨g,0,none⟩))∧V.cell? ⟨g,0,none⟩=some (.string l.pub)) [(true,0),(true,1),(true,2),(false,3),(true,4),(true,5),(true,6),(true,7),(true,8),(true,9),(true,10),(true,11),(true,12),(true,13),(true,14),(true,15),(true,16),(true,17),(true,18),(true,19),(true,20),(false,21),(true,22)] (by kernel_rfl) (by kernel_rfl) (by kernel_rfl) (by kernel_rfl) (by rw [hU];exact ⟨⟨h0,h1,h2,h3,h4,h5⟩,p0,p1,p2,q0,m0⟩) ?_
       rw [hU]
       clear hU
       iterate 3 (refine Kit.hhd (h:= ?_))
       refine Kit.hplan_op (by rfl) (by rfl) fun K' hK=> ?_
       go_simp
       go_at_call 154
       with_reducible refine (HHA.o U HSV.o.store).mono ?_
       rintro e w4 ⟨rfl,rfl⟩
       refine hK _ _ ⟨⟨h0,h1,h2,h3,h4,h5⟩,p0,p1,p2,q0,m0⟩ ?_
       clear hK K'
       iterate 17 (refine Kit.hhd (h:= ?_))
       refine Kit.hplan_op (by rfl) (by rfl) fun K' hK=> ?_
       go_simp
       go_at_call 64
       with_reducible refine (HVF.o HYOK.o.1.1 HYOK.o.1.2 HLU.o).mono ?_
       rintro e w5 ⟨rfl,h5v⟩
       have H5V:=hid h5v
       clear h5v
       refine hK _ _ (HS17.o w5 H5V.o) ?_
       clear hK K' h0 h1 h2 h3 h4 h5 p0 p1 p2 q0 m0
       iterate 1 (refine Kit.hhd (h:= ?_))
       refine Kit.hdn (h:=?_)
       go_upto_region 18 with fail
       have HD5:Hid (Below U.heap.size U w5.drew):=hid H5V.o.drew
       obtain ⟨W5,hW5⟩:=ex_eq w5.drew
       rw [hW5] at HD5
       obtain ⟨q,hq⟩: ∃q:Nat,y.h.seq=(q:Int):=⟨y.h.seq.toNat,by have:=HSG.o.1.2.2.1;omega⟩
       have hq1:1≤q:=by have:=HSG.o.1.2.2.1;omega
       have HGD:Hid (GoodL B H (d:Int) l):=hid (by have:=HGK.o.1.good d HDL.o.1;rwa [HLL.o] at this)
       have HMS:Hid (MergeSt W5 w G G1 s p N0 M nk B H lk xs0 (.slice (some ⟨bz,0,none⟩) LH cz) LH zs):=hid (HSV.o.later HD5.o)
       have HMC:=hid (merge_any (s:=s) (d:=d) (g:=g) (mb:=M) (mn:=nk) (N0:=N0) (l:=l) (G:=G1) xs0 y q hq HSG.o.1.2.2.2.2 HGD.o.most HGD.o.sealed (fun e he=>by
        obtain ⟨i,hi,rfl⟩:=List.getElem_of_mem he
        have:=(HGD.o.log i hi).2.2.1.body
        omega) (HGK.o.1.small l (by have:=HLL.o HDL.o.1;rw [← this];exact List.getElem_mem _)) (signed_small HSG.o) (by have:=HB.o;omega) (by have:=HDL.o;omega) W5 ⟨vl,vs,ss,hx,f0,f1,f2,f3,f4,f5,f6,f7,f8,f9,f10,f11,f12,f13,f14,HLN.o.later HD5.o⟩ HMS.o.map (fun x hx'=>⟨(HXO.o x hx').1.step HMS.o.step (fun h=>by unfold MT at h;omega),(HXO.o x hx').2⟩) ((HZY.o y HYM.o).1.step HMS.o.step (fun h=>by unfold MT at h;omega)) HMS.o.own)
       rw [← hq,HDV.o,HGV.o] at HMC
       have HS18:Hid (∀W:World,W.heap[Y]? =U.heap[Y]? →W.heap[p]? =U.heap[p]? →W.heap[b0]? =U.heap[b0]? →(W.cell? ⟨Y,0,none⟩=some (.int .i64 (d:Int))∧W.cell? ⟨Y,1,none⟩=some (.int .i64 y.h.seq)∧W.cell? ⟨Y,2,none⟩=some (.string y.h.sum)∧W.cell? ⟨Y,3,none⟩=some (.int .i64 y.h.idx)∧W.cell? ⟨Y,4,none⟩=some (.slice y.a1 y.h.ps.length y.c1)∧W.cell? ⟨Y,5,none⟩=some (.slice y.a2 y.h.qs.length y.c2))∧W.cell? ⟨p,2,none⟩=some (.slice (some ⟨b0,0,none⟩) n cap)∧W.cell? ⟨b0,d,none⟩=some (.pointer (some ⟨g,0,none⟩))):=hid (fun W e1 e2 e3=>by
        obtain ⟨_,_,p2,_⟩:=store_cells (e2.trans HRS.o)
        refine ⟨row6 (e1.trans HYD.o),p2,?_⟩
        have h1:=HCK.o
        unfold World.cell? at h1 ⊢
        rw [e3]
        exact h1)
       have hyb:Y<U.heap.size:=(gS HYD.o).1
       have hpb:p<U.heap.size:=(gS HRS.o).1
       have hbb:b0<U.heap.size:=World.block_lt_of_cell? U _ HCK.o
       have HBB:Hid (Y<U.heap.size∧p<U.heap.size∧b0<U.heap.size):=hid ⟨hyb,hpb,hbb⟩
       obtain ⟨⟨h0,h1,h2,h3,h4,h5⟩,p2,q0⟩:=HS18.o W5 (HD5.o.block Y hyb) (HD5.o.block p hpb) (HD5.o.block b0 hbb)
       clear hyb hpb hbb hq hq1
       refine Kit.wp_region_gplan (fun V=>(V.cell? ⟨Y,0,none⟩=some (.int .i64 (d:Int))∧V.cell? ⟨Y,1,none⟩=some (.int .i64 y.h.seq)∧V.cell? ⟨Y,2,none⟩=some (.string y.h.sum)∧V.cell? ⟨Y,3,none⟩=some (.int .i64 y.h.idx)∧V.cell? ⟨Y,4,none⟩=some (.slice y.a1 y.h.ps.length y.c1)∧V.cell? ⟨Y,5,none⟩=some (.slice y.a2 y.h.qs.length y.c2))∧V.cell? ⟨p,2,none⟩=some (.slice (some ⟨b0,0,none⟩) n cap)∧V.cell? ⟨b0,d,none⟩=some (.pointer (some ⟨g,0,none⟩))) [(true,0),(true,1),(true,2),(true,3),(true,4),(true,5),(true,6),(true,7),(true,8),(true,9),(true,10),(false,11),(true,12),(true,13)] (by kernel_rfl) (by kernel_rfl) (by kernel_rfl) (by kernel_rfl) (by rw [hW5];exact ⟨⟨h0,h1,h2,h3,h4,h5⟩,p2,q0⟩) ?_
       rw [hW5]
       clear hW5
       iterate 11 (refine Kit.ghd (h:= ?_))
       refine Kit.gplan_op (by rfl) (by rfl) fun K' hK=> ?_
       go_simp
       go_at_call 155
       with_reducible refine HMC.o.mono ?_
       rintro e w6 ⟨r6,rfl,hmo⟩
       obtain ⟨G2,rfl,hl2,ho2,hs2,hc2⟩:=hmo
       obtain ⟨mg,hmg⟩:=ex_eq (mergeL l gv y.h).2
       rw [hmg]
       have HMG:=hid hmg
       have HL2:=hid hl2
       have HO2:=hid ho2
       have HS2:=hid hs2
       have HC2:=hid hc2
       clear hmg hl2 ho2 hs2 hc2 h0 h1 h2 h3 h4 h5 p2 q0
       have HYT:Hid (G1 Y=0∧G1 p=s∧G1 b0=s):=hid ⟨HYT0.o,HSR.o.tag,HSR.o.ltag b0 rfl⟩
       have HKB:Hid (∀k,k<U.heap.size→G1 k≠s+1+d→w6.heap[k]? =U.heap[k]?):=hid (fun k hk hne=>(HS2.o.chg.other k (by have:=HD5.o.size;omega) (fun i e=>hne e)).trans (HD5.o.block k hk))
       refine hK _ _ (HS18.o w6 (HKB.o Y HBB.o.1 (by rw [HYT.o.1];omega)) (HKB.o p HBB.o.2.1 (by rw [HYT.o.2.1];omega)) (HKB.o b0 HBB.o.2.2 (by rw [HYT.o.2.2];omega))) ?_
       clear hK K'
       have HSN:Hid (stepM B H gv lk y.h=(lk.set d (mergeL l gv y.h).1,mg)):=hid (by
        have h1:=stepM_in (gv:=gv) HDV.o HDL.o.1 (by rw [HLL.o];exact HSG.o)
        rw [HLL.o] at h1
        rw [h1,HMG.o])
       have hgb:gk≤80000:=by have:=HGB.o;have:=HB.o;omega
       have hmb:mg≤4096:=by have:=stepM_bound HGO.o B H lk y.h;rw [HSN.o] at this;exact this
       have hwr:IntKind.i64.wrap ((gk:Int)+(mg:Int))=((gk+mg:Nat):Int):=by rw [IntKind.wrap_i64];omega
       have hwr2:wrap64 ((gk:Int)+(mg:Int))=((gk+mg:Nat):Int):=by rw [IntWalk.wrap64_in _ ⟨by omega,by omega⟩];omega
       iterate 2 (refine Kit.ghd (h:= ?_))
       refine Kit.gdn (h:=?_)
       clear hgb hmb
       have HMF:Hid (MergeSt w6 w G G2 s p N0 M nk B H (lk.set d (mergeL l gv y.h).1) xs0 (.slice (some ⟨bz,0,none⟩) LH cz) LH zs):=hid (HMS.o.merge (HSR.o.later HD5.o) d HDL.o.1 HDL.o.2 (by have:=HB.o;omega) _ (by rw [HGE.o];exact HL2.o) HO2.o HS2.o HC2.o)
       go_wp2_with fail
       go_roundw
       case rel=>first | exact ⟨k+1,by go_num,hlt,by rw [HFS.o,HSN.o];simp only [Int.natCast_add],hid ⟨G2,by rw [HFS.o,HSN.o];exact HMF.o⟩⟩ | exact ⟨_,_,_,⟨k+1,by go_num,hlt,by rw [HFS.o,HSN.o];simp only [Int.natCast_add],hid ⟨G2,by rw [HFS.o,HSN.o];exact HMF.o⟩⟩,rfl,rfl,rfl⟩ | trace_state
       case measure=>simp [intOf];omega
      ·have HSN:Hid (stepM B H gv lk y.h=(lk,0)):=hid (stepM_bad HDV.o HDL.o.1 (by rw [HLL.o];exact hsg))
       rw [decide_eq_false hsg] at HVF
       clear hsg
       refine Kit.wp_region_hplan (fun V=>(V.cell? ⟨Y,0,none⟩=some (.int .i64 (d:Int))∧V.cell? ⟨Y,1,none⟩=some (.int .i64 y.h.seq)∧V.cell? ⟨Y,2,none⟩=some (.string y.h.sum)∧V.cell? ⟨Y,3,none⟩=some (.int .i64 y.h.idx)∧V.cell? ⟨Y,4,none⟩=some (.slice y.a1 y.h.ps.length y.c1)∧V.cell? ⟨Y,5,none⟩=some (.slice y.a2 y.h.qs.length y.c2))∧V.cell? ⟨p,0,none⟩=some (.int .i64 B)∧V.cell? ⟨p,1,none⟩=some (.int .i64 H)∧V.cell? ⟨p,2,none⟩=some (.slice (some ⟨b0,0,none⟩) n cap)∧V.cell? ⟨b0,d,none⟩=some (.pointer (some ⟨g,0,none⟩))∧V.cell? ⟨g,0,none⟩=some (.string l.pub)) [(true,0),(true,1),(true,2),(false,3),(true,4),(true,5),(true,6),(true,7),(true,8),(true,9),(true,10),(true,11),(true,12),(true,13),(true,14),(true,15),(true,16),(true,17),(true,18),(true,19),(true,20),(false,21),(true,22)] (by kernel_rfl) (by kernel_rfl) (by kernel_rfl) (by kernel_rfl) (by rw [hU];exact ⟨⟨h0,h1,h2,h3,h4,h5⟩,p0,p1,p2,q0,m0⟩) ?_
       rw [hU]
       clear hU
       iterate 3 (refine Kit.hhd (h:= ?_))
       refine Kit.hplan_op (by rfl) (by rfl) fun K' hK=> ?_
       go_simp
       go_at_call 154
       with_reducible refine (HHA.o U HSV.o.store).mono ?_
       rintro e w4 ⟨rfl,rfl⟩
       refine hK _ _ ⟨⟨h0,h1,h2,h3,h4,h5⟩,p0,p1,p2,q0,m0⟩ ?_
       clear hK K'
       iterate 17 (refine Kit.hhd (h:= ?_))
       refine Kit.hplan_op (by rfl) (by rfl) fun K' hK=> ?_
       go_simp
       go_at_call 64
       with_reducible refine (HVF.o HYOK.o.1.1 HYOK.o.1.2 HLU.o).mono ?_
       rintro e w5 ⟨rfl,h5v⟩
       have H5V:=hid h5v
       clear h5v
       refine hK _ _ (HS17.o w5 H5V.o) ?_
       clear hK K' h0 h1 h2 h3 h4 h5 p0 p1 p2 q0 m0
       iterate 1 (refine Kit.hhd (h:= ?_))
       refine Kit.hdn (h:=?_)
       go_wp2_with fail
       go_roundw
       case rel=>first | exact ⟨k+1,by go_num,hlt,by rw [HFS.o,HSN.o];rfl,hid ⟨G1,by rw [HFS.o,HSN.o];exact HSV.o.later H5V.o⟩⟩ | exact ⟨_,_,_,⟨k+1,by go_num,hlt,by rw [HFS.o,HSN.o];rfl,hid ⟨G1,by rw [HFS.o,HSN.o];exact HSV.o.later H5V.o⟩⟩,rfl,rfl,rfl⟩ | trace_state
       case measure=>simp [intOf];omega

     ·have HSN:Hid (stepM B H gv lk y.h=(lk,0)):=hid (stepM_out hin)
      rw [decide_eq_false hin] at HHA
      clear hin
      have HS2:Hid (MergeSt V.drew w G G1 s p N0 M nk B H lk xs0 (.slice (some ⟨bz,0,none⟩) LH cz) LH zs):=hid (HS1.o.later (Below.refl _ V).drew)
      obtain ⟨h0,_⟩:=row6 (show V.drew.heap[Y]? =_ from HYV.o)
      refine Kit.wp_region_hplan (fun V=>V.cell? ⟨Y,0,none⟩=some (.int .i64 y.h.dev)) [(true,0),(true,1),(true,2),(false,3),(true,4),(true,5),(true,6),(true,7),(true,8),(true,9),(true,10),(true,11),(true,12),(true,13),(true,14),(true,15),(true,16),(true,17),(true,18),(true,19),(true,20),(false,21),(true,22)] (by kernel_rfl) (by kernel_rfl) (by kernel_rfl) (by kernel_rfl) h0 ?_
      iterate 3 (refine Kit.hhd (h:= ?_))
      refine Kit.hplan_op (by rfl) (by rfl) fun K' hK=> ?_
      go_simp
      go_at_call 154
      with_reducible refine (HHA.o V.drew HS2.o.store).mono ?_
      rintro e w4 ⟨rfl,rfl⟩
      refine hK _ _ h0 ?_
      clear hK K'
      iterate 17 (refine Kit.hhd (h:= ?_))
      refine Kit.hsk (h:=?_)
      iterate 1 (refine Kit.hhd (h:= ?_))
      refine Kit.hdn (h:=?_)
      go_wp2_with fail
      go_roundw
      case rel=>first | exact ⟨k+1,by go_num,hlt,by rw [HFS.o,HSN.o];rfl,hid ⟨G1,by rw [HFS.o,HSN.o];exact HS2.o⟩⟩ | exact ⟨_,_,_,⟨k+1,by go_num,hlt,by rw [HFS.o,HSN.o];rfl,hid ⟨G1,by rw [HFS.o,HSN.o];exact HS2.o⟩⟩,rfl,rfl,rfl⟩ | trace_state
      case measure=>simp [intOf];omega
    ·have hki: ¬(k:Int)<(LH:Int):=by omega
     obtain rfl:k=LH:=by omega
     go_wp2_with fail
     go_ret2
     have hzs:zs.take k=zs:=List.take_of_length_le (by rw [HZL.o];exact Nat.le_refl _)
     have hlk:=HLK.o
     have hgk:=HGKE.o
     unfold foldK at hlk hgk
     rw [hzs] at hlk hgk
     exact ⟨G1,zs.map HV.h,gk,rfl,HP3.o.map _,hgk.symm,by rw [hlk];exact HS1.o.store,HS1.o.own,HS1.o.step,HS1.o.cond⟩
end Go.Proofs.YtndlihclgdkpaaaGreatDoor
