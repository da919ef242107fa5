/- The law's dropped: what Missing gave, without two numbers. -/
import Derived.Test.YtndlihclgdkpaaaGreatDoorGg
import Derived.Test.YtndlihclgdkpaaaGreatDoorGmv
import Derived.Test.YtndlihclgdkpaaaGreatDoorVcw
set_option linter.unusedVariables false
set_option linter.unusedSimpArgs false
open Go.Lib (hid)
namespace Go.Proofs.YtndlihclgdkpaaaGreatDoor
open Go.RowKit
open Kit (Chg)
open Sha (v)
open Go.Proofs.YtndlihclgdkpaaaGreatDoor.One

def dropT {α:Type} (l:List α) (d:Int):Nat→List α
 | 0=>[]
 | k+1=>if (k:Int)=d then dropT l d k else dropT l d k++(l[k]?).toList
theorem dropT_skip {α:Type} (l:List α) (d:Int) (k:Nat) (h:(k:Int)=d):dropT l d (k+1)=dropT l d k:=if_pos h
theorem dropT_put {α:Type} (l:List α) (d:Int) (k:Nat) (hk:k<l.length) (h: ¬(k:Int)=d):dropT l d (k+1)=dropT l d k++[l[k]]:=by
 show (if (k:Int)=d then _ else _)=_
 rw [if_neg h,lE hk]
 rfl
theorem dropT_len {α:Type} (l:List α) (d:Int): ∀k,(dropT l d k).length≤k
 | 0=>Nat.le_refl _
 | k+1=>by
   have h:=dropT_len l d k
   show (if (k:Int)=d then _ else _:List α).length≤_
   split
   ·omega
   ·rw [List.length_append]
    have:((l[k]?).toList).length≤1:=by cases l[k]? <;> simp
    omega
theorem dropT_mem {α:Type} {l:List α} {d:Int} {x:α}: ∀{k:Nat},x ∈ dropT l d k→x ∈ l
 | 0,h=>by cases h
 | k+1,h=>by
   have h1:x ∈ (if (k:Int)=d then dropT l d k else dropT l d k++(l[k]?).toList):=h
   split at h1
   ·exact dropT_mem h1
   ·rcases List.mem_append.1 h1 with h2 | h2
    ·exact dropT_mem h2
    ·cases hq:l[k]? with
     | none=>rw [hq] at h2;cases h2
     | some y=>
       rw [hq] at h2
       have h3:x=y:=by simpa using h2
       rw [h3]
       exact List.mem_of_getElem? hq
theorem own_low {w:World} {base e size n g:Nat} {v:Value} {xs:List Value} (h:w.ownsRow base e size v n xs) (hg:v.ownBlock=some g):base≤g:=by
 rcases h.2 with ⟨rfl,_⟩ | ⟨g',cap,cur,rfl,hb,hgg,r⟩
 ·simp [Value.ownBlock] at hg
 ·obtain rfl:g'=g:=by simpa [Value.ownBlock] using hg
  exact hb
theorem got_new {w w':World} {M P:Nat} {v7 v8 v1 v2:Value} {xs xs':List EV} {ys ys':List HV} (h:Got w M v7 v8 xs ys) (hb:Below w.heap.size w w') (h1:w'.ownsRow P 92 6 v1 xs'.length (evs xs')) (h2:w'.ownsRow P 94 6 v2 ys'.length (hvs ys')) (hM:M≤w.heap.size) (hP:w.heap.size≤P) (hx: ∀x ∈ xs',x ∈ xs) (hy: ∀y ∈ ys',y ∈ ys):Got w' M v1 v2 xs' ys':=
 ⟨ownsRow_base h1 (Nat.le_trans hM hP),ownsRow_base h2 (Nat.le_trans hM hP),fun x h0=>(h.ne x (hx x h0)).later hb,fun y h0=>(h.nh y (hy y h0)).later hb,
  fun x h0 hz ad e=>⟨fun h3=>absurd (own_low h1 h3.symm) (by have:=(h.ne x (hx x h0)).2.1.blk ad e hz;omega),fun h3=>absurd (own_low h2 h3.symm) (by have:=(h.ne x (hx x h0)).2.1.blk ad e hz;omega)⟩,
  fun y h0 hz ad e=>⟨fun h3=>absurd (own_low h1 h3.symm) (by have:=(h.nh y (hy y h0)).1.blk ad e hz;omega),fun h3=>absurd (own_low h2 h3.symm) (by have:=(h.nh y (hy y h0)).1.blk ad e hz;omega)⟩,
  fun y h0 hz ad e=>⟨fun h3=>absurd (own_low h1 h3.symm) (by have:=(h.nh y (hy y h0)).2.1.blk ad e hz;omega),fun h3=>absurd (own_low h2 h3.symm) (by have:=(h.nh y (hy y h0)).2.1.blk ad e hz;omega)⟩⟩
set_option maxRecDepth 100000 in
set_option maxHeartbeats 2000000 in
theorem dropped_any {M:Nat} {v7 v8:Value} {xs:List EV} {ys:List HV} (d1 d2:Int) (hx:xs.length≤100000) (hy:ys.length≤1000) (w:World) (h:Got w M v7 v8 xs ys) (hM:M≤w.heap.size):
    Calls Tryz.prog 141 #[v7,v8,.agg #[.int .i64 d1,.int .i64 d2]] w fun e w'=> ∃v1 v2:Value,e= .returned (.tuple #[v1,v2])∧Got w' M v1 v2 (dropT xs d1 xs.length) (dropT ys d2 ys.length)∧Below w.heap.size w w':=by
 have HG:=hid h
 obtain ⟨hn7,a7,c7,rfl,_,_,_,hc7⟩:=sixes_cells (fun _=>rfl) h.es
 obtain ⟨hn8,a8,c8,rfl,_,_,_,hc8⟩:=sixes_cells (fun _=>rfl) h.hs
 have HC7:=hid hc7
 have HC8:=hid hc8
 obtain ⟨L,hL⟩:=ex_eq xs.length
 obtain ⟨K,hK⟩:=ex_eq ys.length
 have HL:=hid hL
 have HK:=hid hK
 have HMW:Hid (M≤w.heap.size):=hid hM
 rw [hL] at hx ⊢
 rw [hK] at hy ⊢
 clear h hn7 hn8 hc7 hc8 hL hK hM
 obtain ⟨N,hN⟩:=ex_eq w.heap.size
 have HN:=hid hN
 clear hN
 go_enter Tryz.func141,Tryz.ntmps141
 go_upto_region 3 with fail
 refine wp_over (fun V=>Hid (V.heap[w.heap.size]? =some (.cells #[.int .i64 d1,.int .i64 d2] 99 (0,0)))∧Hid (V.ownsRow (w.heap.size+1) 92 6 (.slice (some ⟨w.heap.size+1,0,none⟩) 0 0) 0 (evs []))∧Hid (V.ownsRow (w.heap.size+1) 94 6 (.slice (some ⟨w.heap.size+1+1,0,none⟩) 0 0) 0 (hvs []))∧Hid (Below w.heap.size w V)∧Hid (V.heap.size=w.heap.size+3)) ⟨(Below.heap_alloc _ _ _ (by simp only [World.size_alloc];omega)).trans two_rows1,?_,?_,(two_below.alloc (by simp only [World.size_alloc];omega) _),by show _=_;simp⟩ ?_
 ·exact ⟨rfl,.inr ⟨w.heap.size+1,0,#[],rfl,Nat.le_refl _,(Below.heap_alloc _ _ _ (by simp only [World.size_alloc];omega)).trans two_rows2,Nat.le_refl _,by decide,rfl,rfl⟩⟩
 ·refine ⟨rfl,.inr ⟨w.heap.size+1+1,0,#[],rfl,by omega,?_,Nat.le_refl _,by decide,rfl,rfl⟩⟩
  have:=heap_alloc_new ((w.alloc (.cells #[.int .i64 d1,.int .i64 d2] 99)).alloc (.cells #[] 92)) (.cells #[] 94)
  simpa using this
 rintro Y ⟨HDR,HE0,HH0,HBY,HYS⟩
 obtain ⟨P,hP⟩:=ex_eq (w.heap.size+1)
 have HPE:=hid hP
 rw [hP] at HE0 HH0 ⊢
 clear hP
 have HDC:Hid (∀V,Below P Y V→V.cell? ⟨w.heap.size,0,none⟩=some (.int .i64 d1)∧V.cell? ⟨w.heap.size,1,none⟩=some (.int .i64 d2)):=hid (fun V h=>by
  have hr:=(h.block w.heap.size (by have:=HPE.o;omega)).trans HDR.o
  exact ⟨cr hr,cr hr⟩)
 have HBW:Hid (∀V,Below P Y V→Below w.heap.size w V):=hid (fun V h=>HBY.o.trans (h.mono (by have:=HPE.o;omega)))
 have HPY:Hid (P≤Y.heap.size):=hid (by have:=HPE.o;have:=HYS.o;omega)
 obtain ⟨DB,hDB⟩:=ex_eq w.heap.size
 have HDB:=hid hDB
 rw [hDB] at HDC ⊢
 clear hDB HDR HBY
 go_loopw [8,10] (fun v z wr=> ∃(k n:Nat),k≤L∧z= .int .i64 (k:Int)∧Hid (wr.ownsRow P 92 6 v n (evs (dropT xs d1 k))∧n=(dropT xs d1 k).length)∧Hid (wr.ownsRow P 94 6 (.slice (some ⟨P+1,0,none⟩) 0 0) 0 (hvs []))∧Hid (Below P Y wr)) (fun _ z _=>L - (intOf z).toNat)
 case atStart=>exact ⟨0,0,by omega,rfl,hid ⟨HE0.o,rfl⟩,HH0,hid (Below.refl _ _)⟩
 case round=>
  obtain ⟨k,n,hk,rfl,HE,HH,HR⟩:=hrel
  by_cases hlt:k<L
  ·have hki:(k:Int)<(L:Int):=by omega
   have HKL:Hid (k<xs.length):=hid (by rw [HL.o];exact hlt)
   obtain ⟨e1,e2⟩:=HDC.o _ HR.o
   have hwr:IntKind.i64.wrap ((k:Int)+1)=(k:Int)+1:=by rw [IntKind.wrap_i64];omega
   by_cases hd:(k:Int)=d1
   ·have hne:((k:Int) != d1)=false:=by rw [hd];simp
    have HT:=hid (dropT_skip xs d1 k hd)
    clear hd
    go_wp2_with fail
    go_roundw
    case rel=>exact ⟨k+1,n,hlt,by go_num,hid (by rw [HT.o];exact HE.o),HH,HR⟩
    case measure=>simp [intOf];omega
   ·have hne:((k:Int) != d1)=true:=by rw [bne_iff_ne];exact hd
    have HT:=hid (dropT_put xs d1 k HKL.o hd)
    clear hd
    obtain ⟨b7,rfl,_,hc⟩:=HC7.o k HKL.o
    have HNE:=hid ((HG.o.ne _ (List.getElem_mem HKL.o)))
    obtain ⟨y,hy⟩:=ex_eq (xs[k]'HKL.o)
    have HY:Hid (xs[k]'HKL.o=y):=hid hy
    rw [hy] at hc HT
    clear hy
    have HYC:Hid (y.cells=[.int .i64 y.e.dev,.int .i64 y.e.seq,.int .i64 y.e.kind,.int .i64 y.e.day,.slice y.a y.e.body.length y.c,.string y.e.prev]):=hid rfl
    have HSS:Hid (∀j,j<6→wr.cell? ⟨b7,k*6+j,none⟩=y.cells[j]?):=hid (fun j hj=>by
     have h0:=hc j hj
     have h1:j<y.cells.length:=by rw [HYC.o];exact hj
     rw [lE h1] at h0 ⊢
     exact ((HBW.o _ HR.o).cell (World.block_lt_of_cell? w _ h0)).trans h0)
    have g0:wr.cell? ⟨b7,k*6,none⟩=some (.int .i64 y.e.dev):=HSS.o 0 (by decide)
    have g1:wr.cell? ⟨b7,k*6+1,none⟩=some (.int .i64 y.e.seq):=HSS.o 1 (by decide)
    have g2:wr.cell? ⟨b7,k*6+2,none⟩=some (.int .i64 y.e.kind):=HSS.o 2 (by decide)
    have g3:wr.cell? ⟨b7,k*6+3,none⟩=some (.int .i64 y.e.day):=HSS.o 3 (by decide)
    have g4:wr.cell? ⟨b7,k*6+4,none⟩=some (.slice y.a y.e.body.length y.c):=HSS.o 4 (by decide)
    have g5:wr.cell? ⟨b7,k*6+5,none⟩=some (.string y.e.prev):=HSS.o 5 (by decide)
    have HWA:Hid (∀o,Below wr.heap.size wr (wr.alloc o)):=hid (fun o=>(Below.refl _ wr).alloc (Nat.le_refl _) o)
    have HNL:Hid (n≤k):=hid (by rw [HE.o.2];exact dropT_len _ _ _)
    have HPR:Hid (P≤wr.heap.size):=hid (by have:=HR.o.size;have:=HPY.o;omega)
    have hn6:n≤1000000:=by have:=HNL.o;omega
    clear hc
    go_wp2_with (first
     | (at_builtin
        refine app_ents (w0:=wr.alloc (.cells #[.int .i64 y.e.dev,.int .i64 y.e.seq,.int .i64 y.e.kind,.int .i64 y.e.day,.slice y.a y.e.body.length y.c,.string y.e.prev] 92)) rfl _ _ rfl P u8 n (dropT xs d1 k) (by rfl) (own_later HE.o.1 (HWA.o _)) (by rw [World.size_alloc];have:=HPR.o;omega) hn6 ⟨wr.heap.size,0,none⟩ 1 1 [y] (by rfl) rfl (by decide) (ent_new y HYC.o) (by omega) ?_
        intro bl cap w3 ho hg hat
        have HO:=hid ho
        have HBG:=hid (grown_below (own_later HE.o.1 (HWA.o (.cells #[.int .i64 y.e.dev,.int .i64 y.e.seq,.int .i64 y.e.kind,.int .i64 y.e.day,.slice y.a y.e.body.length y.c,.string y.e.prev] 92))) (by rw [World.size_alloc];have:=HPR.o;omega) hg)
        have HGR:=hid hg
        clear ho hg hat))
    have HHN:Hid (w3.ownsRow P 94 6 (.slice (some ⟨P+1,0,none⟩) 0 0) 0 (hvs [])):=hid (by
     have h1:=own_later HH.o (HWA.o (.cells #[.int .i64 y.e.dev,.int .i64 y.e.seq,.int .i64 y.e.kind,.int .i64 y.e.day,.slice y.a y.e.body.length y.c,.string y.e.prev] 92))
     have h2:=own_later HE.o.1 (HWA.o (.cells #[.int .i64 y.e.dev,.int .i64 y.e.seq,.int .i64 y.e.kind,.int .i64 y.e.day,.slice y.a y.e.body.length y.c,.string y.e.prev] 92))
     exact ownsRow_keepM h1 (Chg.of_grown HGR.o (fun q _ e=>e.symm):Chg (fun q _=>some q=u8.ownBlock) _ w3) (fun q hq i e=>rows_apart h1 h2 (by decide) hq e))
    have HR3:Hid (Below P Y w3):=hid ((HR.o.trans ((HWA.o _).mono HPR.o)).trans HBG.o)
    go_roundw
    case rel=>exact ⟨k+1,n+1,hlt,by go_num,hid ⟨by rw [HT.o];exact HO.o,by rw [HT.o,List.length_append,HE.o.2];rfl⟩,HHN,HR3⟩
    case measure=>simp [intOf];omega
  ·have hki: ¬(k:Int)<(L:Int):=by omega
   obtain rfl:k=L:=by omega
   go_wp2_with fail
   have HE1:Hid (wr.ownsRow P 92 6 u8 n (evs (dropT xs d1 k))):=hid HE.o.1
   have HEN:Hid (n=(dropT xs d1 k).length):=hid HE.o.2
   have HR0:=HR
   have HH1:=HH
   clear HE HR HH hki hlt hk
   go_loopw [9,11] (fun v z wq=> ∃(j m:Nat),j≤K∧z= .int .i64 (j:Int)∧Hid (wq.ownsRow P 92 6 u8 n (evs (dropT xs d1 k)))∧Hid (wq.ownsRow P 94 6 v m (hvs (dropT ys d2 j))∧m=(dropT ys d2 j).length)∧Hid (Below P Y wq)) (fun _ z _=>K - (intOf z).toNat)
   case atStart=>exact ⟨0,0,by omega,rfl,HE1,hid ⟨HH1.o,rfl⟩,HR0⟩
   case round=>
    obtain ⟨j,m,hj,rfl,HE,HH,HR⟩:=hrel
    by_cases hlt:j<K
    ·have hki:(j:Int)<(K:Int):=by omega
     have HKL:Hid (j<ys.length):=hid (by rw [HK.o];exact hlt)
     obtain ⟨e1,e2⟩:=HDC.o _ HR.o
     have hwr:IntKind.i64.wrap ((j:Int)+1)=(j:Int)+1:=by rw [IntKind.wrap_i64];omega
     by_cases hd:(j:Int)=d2
     ·have hne:((j:Int) != d2)=false:=by rw [hd];simp
      have HT:=hid (dropT_skip ys d2 j hd)
      clear hd
      go_wp2_with fail
      go_roundw
      case rel=>exact ⟨j+1,m,hlt,by go_num,HE,hid (by rw [HT.o];exact HH.o),HR⟩
      case measure=>simp [intOf];omega
     ·have hne:((j:Int) != d2)=true:=by rw [bne_iff_ne];exact hd
      have HT:=hid (dropT_put ys d2 j HKL.o hd)
      clear hd
      obtain ⟨b7,rfl,_,hc⟩:=HC8.o j HKL.o
      obtain ⟨y,hy⟩:=ex_eq (ys[j]'HKL.o)
      have HY:Hid (ys[j]'HKL.o=y):=hid hy
      rw [hy] at hc HT
      clear hy
      have HYC:Hid (y.cells=[.int .i64 y.h.dev,.int .i64 y.h.seq,.string y.h.sum,.int .i64 y.h.idx,.slice y.a1 y.h.ps.length y.c1,.slice y.a2 y.h.qs.length y.c2]):=hid rfl
      have HSS:Hid (∀i,i<6→wr.cell? ⟨b7,j*6+i,none⟩=y.cells[i]?):=hid (fun i hi=>by
       have h0:=hc i hi
       have h1:i<y.cells.length:=by rw [HYC.o];exact hi
       rw [lE h1] at h0 ⊢
       exact ((HBW.o _ HR.o).cell (World.block_lt_of_cell? w _ h0)).trans h0)
      have g0:wr.cell? ⟨b7,j*6,none⟩=some (.int .i64 y.h.dev):=HSS.o 0 (by decide)
      have g1:wr.cell? ⟨b7,j*6+1,none⟩=some (.int .i64 y.h.seq):=HSS.o 1 (by decide)
      have g2:wr.cell? ⟨b7,j*6+2,none⟩=some (.string y.h.sum):=HSS.o 2 (by decide)
      have g3:wr.cell? ⟨b7,j*6+3,none⟩=some (.int .i64 y.h.idx):=HSS.o 3 (by decide)
      have g4:wr.cell? ⟨b7,j*6+4,none⟩=some (.slice y.a1 y.h.ps.length y.c1):=HSS.o 4 (by decide)
      have g5:wr.cell? ⟨b7,j*6+5,none⟩=some (.slice y.a2 y.h.qs.length y.c2):=HSS.o 5 (by decide)
      have HWA:Hid (∀o,Below wr.heap.size wr (wr.alloc o)):=hid (fun o=>(Below.refl _ wr).alloc (Nat.le_refl _) o)
      have HNL:Hid (m≤j):=hid (by rw [HH.o.2];exact dropT_len _ _ _)
      have HPR:Hid (P≤wr.heap.size):=hid (by have:=HR.o.size;have:=HPY.o;omega)
      have hn6:m≤1000000:=by have:=HNL.o;omega
      clear hc
      go_wp2_with (first
       | (at_builtin
          refine app_headAt (w0:=wr) rfl _ _ rfl P u9 m (dropT ys d2 j) (by rfl) HH.o.1 HPR.o hn6 y HYC.o 1 (by rfl) ?_
          intro bl cap w3 ho hg hat
          have HO:=hid ho
          have HBG:=hid (grown_below (own_later HH.o.1 (HWA.o (.cells #[.int .i64 y.h.dev,.int .i64 y.h.seq,.string y.h.sum,.int .i64 y.h.idx,.slice y.a1 y.h.ps.length y.c1,.slice y.a2 y.h.qs.length y.c2] 94))) (by rw [World.size_alloc];have:=HPR.o;omega) hg)
          have HGR:=hid hg
          clear ho hg hat))
      have HHN:Hid (w3.ownsRow P 92 6 u8 n (evs (dropT xs d1 k))):=hid (by
       have h1:=own_later HE.o (HWA.o (.cells #[.int .i64 y.h.dev,.int .i64 y.h.seq,.string y.h.sum,.int .i64 y.h.idx,.slice y.a1 y.h.ps.length y.c1,.slice y.a2 y.h.qs.length y.c2] 94))
       have h2:=own_later HH.o.1 (HWA.o (.cells #[.int .i64 y.h.dev,.int .i64 y.h.seq,.string y.h.sum,.int .i64 y.h.idx,.slice y.a1 y.h.ps.length y.c1,.slice y.a2 y.h.qs.length y.c2] 94))
       exact ownsRow_keepM h1 (Chg.of_grown HGR.o (fun q _ e=>e.symm):Chg (fun q _=>some q=u9.ownBlock) _ w3) (fun q hq i e=>rows_apart h1 h2 (by decide) hq e))
      have HR3:Hid (Below P Y w3):=hid ((HR.o.trans ((HWA.o _).mono HPR.o)).trans HBG.o)
      go_roundw
      case rel=>exact ⟨j+1,m+1,hlt,by go_num,HHN,hid ⟨by rw [HT.o];exact HO.o,by rw [HT.o,List.length_append,HH.o.2];rfl⟩,HR3⟩
      case measure=>simp [intOf];omega
    ·have hki: ¬(j:Int)<(K:Int):=by omega
     obtain rfl:j=K:=by omega
     go_wp2_with fail
     go_ret2
     refine ⟨_,_,rfl,?_,HBW.o _ HR.o⟩
     refine got_new (P:=P) HG.o (HBW.o _ HR.o) ?_ ?_ HMW.o (by have:=HPE.o;omega) (fun _ h=>dropT_mem h) (fun _ h=>dropT_mem h)
     ·rw [← HEN.o];exact HE.o
     ·rw [← HH.o.2];exact HH.o.1
end Go.Proofs.YtndlihclgdkpaaaGreatDoor
