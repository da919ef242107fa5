/- The document's Carried. -/
import Derived.Test.YtndlihclgdkpaaaGreatDoorGn
import Derived.Test.YtndlihclgdkpaaaGreatDoorQfb
set_option linter.unusedVariables false
set_option linter.unusedSimpArgs false
open Go.Lib (hid)
namespace Go.Proofs.YtndlihclgdkpaaaGreatDoor
open Go.RowKit
open Kit (Chg)
open Sha (v)
open Go.Proofs.YtndlihclgdkpaaaGreatDoor.One

theorem Tryz.infoInt:(Tryz.prog.info? 3).map (fun i=>(i.zero,i.size,i.bytes))=some (some (.int .i64 0),1,8):=by kernel_rfl
section
variable {ops:Array Oper} {rest:List Oper} {o:Oper} {a:Act} {Q:Exit→Act→World→Prop}
theorem app_intG {w0:World} (hgd:o.guard=none) (s x:Operand) (ho:o.op= .call { callee:= .builtin .append,args:= #[s,x],argTypes:= #[81, 81] })
    (base:Nat) (v:Value) (L:Nat) (cur:List Int) (hs:a.eval s=v) (hown:w0.ownsRow base 3 1 v L (intV cur)) (hb:base≤w0.heap.size) (hL:L≤1000000)
    (z:Int) (c:Nat) (hx:a.eval x= .slice (some ⟨w0.heap.size,0,none⟩) 1 c)
    (h: ∀v' w',w'.ownsRow base 3 1 v' (L+1) (intV (cur++[z]))→Below base w0 w'→wpList Tryz.prog ops Q rest (a.put o.dst v') w'):wpList Tryz.prog ops Q (o::rest) a (w0.alloc (.cells #[.int .i64 z] 3)):=by
 obtain ⟨i0,hi,hz0,hz1,hz2⟩:=info_parts Tryz.infoInt
 refine wpList_append_own _ hgd s x 81 ho base 3 i0 (.int .i64 0) 1 8 Tryz.underlying81 hi hz0 hz1 hz2 rfl (by decide) v L (intV cur) hs (hown.alloc _) ⟨w0.heap.size,0,none⟩ 1 c [.int .i64 z] hx rfl (cell_one_new _ _ _) (by simp [Value.oneCell']) (by unfold maxLen;omega) (by omega) (by simp;omega) ?_
 intro v' w4 hown4 hgr4 _
 refine h v' w4 (by rw [show intV (cur++[z])=intV cur++[.int .i64 z] from by simp [intV]];exact hown4) ?_
 exact ((Chg.alloc1 w0 _).trans (Chg.of_grown hgr4 (fun q _ e=>(hown.lt q e).1)):Chg (fun q _=>base≤q) w0 w4).below hb (fun q i hq h=>by omega)
end
theorem own_emptyI {w:World} {base:Nat} (h:base≤w.heap.size):(w.alloc (.cells #[] 3)).ownsRow base 3 1 (.slice (some ⟨w.heap.size,0,none⟩) 0 0) 0 (intV []):=⟨rfl,.inr ⟨w.heap.size,0,#[],rfl,h,heap_alloc_new w _,Nat.le_refl _,by decide,rfl,rfl⟩⟩
theorem carB_get (m:List Rc) (s:ByteArray) (n k:Nat) (h:k<n):(carB m s n).take (k+1)=(carB m s n).take k++[match curB m ⟨s,(k:Int)⟩ with | some r=>r.hol | none=> -1]:=by
 have hl:(carB m s n).length=n:=by simp [carB]
 rw [List.take_succ_eq_append_getElem (by rw [hl];exact h)]
 congr 1
 unfold carB
 rw [List.getElem_map,List.getElem_range]
 cases curB m ⟨s,(k:Int)⟩<;> rfl
set_option maxRecDepth 100000 in
set_option maxHeartbeats 4000000 in
theorem refCarried_ok (a:Option Addr) (c L:Nat) (xs:List RcV) (hLe:xs.length=L) (hL:L≤100000) (s:ByteArray) (n:Nat) (hn1:1≤n) (hn:n≤16) (w:World) (hX:RcsAt w a xs):
    Calls Tryz.prog 50 #[.slice a L c,.string s,.int .i64 (n:Int)] w fun e w'=> ∃b2 c2,e= .returned (.slice (some ⟨b2,0,none⟩) n c2)∧w.heap.size≤b2∧(∀i (h:i<(carB (xs.map RcV.r) s n).length),w'.cell? ⟨b2,i,none⟩=some (.int .i64 (carB (xs.map RcV.r) s n)[i]))∧Below w.heap.size w w':=by
 have HX:=hid hX
 have HLE:=hid hLe
 obtain ⟨N,hN⟩:=ex_eq w.heap.size
 have HN:=hid hN
 have HL:=hid hL
 have HXW:Hid (∀V,Below N w V→RcsAt V a xs):=hid (fun V h=>HX.o.later (by rw [HN.o];exact h))
 have HSZ:Hid (∀V,Below N w V→N≤V.heap.size):=hid (fun V h=>by have:=h.size;have:=HN.o;omega)
 obtain ⟨m,hm⟩:=ex_eq (xs.map RcV.r)
 have HM:=hid hm
 clear hLe hX hN hL hm
 go_enter Tryz.func50,Tryz.ntmps50
 go_upto_region 2 with fail
 refine wp_over (fun V=>Hid (V.ownsRow N 3 1 (.slice (some ⟨w.heap.size,0,none⟩) 0 0) 0 (intV []))∧Hid (Below N w V)) ⟨hid (own_emptyI (by have:=HN.o;omega)),hid ((Below.refl _ _).alloc (by have:=HN.o;omega) _)⟩ ?_
 rintro Y ⟨HY,HYB⟩
 go_upto_region 3 with fail
 go_loopw [7,8] (fun v y wr=> ∃k:Nat,k≤n∧y= .int .i64 (k:Int)∧Hid (wr.ownsRow N 3 1 v k (intV ((carB m s n).take k)))∧Hid (Below N w wr)) (fun _ y _=>n - (intOf y).toNat)
 case atStart=>exact ⟨0,Nat.zero_le _,rfl,hid (by rw [List.take_zero];exact HY.o),HYB⟩
 case round=>
  obtain ⟨k,hk,rfl,HO,HR⟩:=hrel
  by_cases hlt:k<n
  rotate_left
  ·have hki: ¬(k:Int)<(n:Int):=by omega
   have hke:k=n:=by omega
   have hcl:(carB m s n).length=n:=by simp [carB]
   rw [hke,List.take_of_length_le (Nat.le_of_eq hcl)] at HO
   obtain ⟨b2,c2,rfl⟩:=own_some HO.o hn1
   have HCE:Hid (N≤b2∧ ∀i (h:i<(carB m s n).length),wr.cell? ⟨b2,i,none⟩=some (.int .i64 (carB m s n)[i])):=hid (by
    rcases HO.o.2 with ⟨h,_⟩ | ⟨g,cap,cur,e,hb,hg,h1,h2,h3,h4⟩
    ·cases h
    ·injection e with e _ _
     injection e with e
     injection e with e
     subst e
     refine ⟨hb,fun i hi=>(cell_of_row _ _ _ _ _ _ hg).trans ?_⟩
     have h5:(cur.toList.take (n*1))[i]? =(intV (carB m s n))[i]? :=by rw [h4]
     rw [List.getElem?_take_of_lt (by omega),Array.getElem?_toList] at h5
     rw [h5]
     unfold intV
     rw [List.getElem?_map,lE hi]
     rfl)
   go_wp2_with fail
   go_ret
   rw [HM.o]
   exact ⟨b2,⟨c2,rfl⟩,by rw [HN.o];exact HCE.o.1,HCE.o.2,by rw [HN.o];exact HR.o⟩
  have hki:(k:Int)<(n:Int):=by omega
  have HTK:=hid (carB_get m s n k hlt)
  cases hcu:curB m ⟨s,(k:Int)⟩ with
  | some r=>
    obtain ⟨hol,vlt,str,ix,sz,day,ser,cnt,pl,root,pa,si,pt,sq⟩:=r
    rw [hcu] at HTK
    obtain ⟨n1,e1⟩:=ex_eq pa.length
    obtain ⟨n2,e2⟩:=ex_eq pt.length
    obtain ⟨n3,e3⟩:=ex_eq sq.length
    have HCU:=hid (refCurrent_some a c L xs HLE.o HL.o s (k:Int) hol vlt str ix sz day ser cnt pl root si pa pt sq n1 n2 n3 e1 e2 e3 (by rw [HM.o];exact hcu) wr (HXW.o _ HR.o))
    clear hcu e1 e2 e3
    go_upto_region 6 with fail
    go_at_call 45
    with_reducible refine HCU.o.mono ?_
    rintro e w2 ⟨ap,c1,aq,c2,ar,c3,rfl,_,hb⟩
    have H2:Hid (Below N w w2):=hid (HR.o.trans (hb.mono (HSZ.o _ HR.o)))
    have HO2:=hid (own_later HO.o hb)
    clear hb
    go_upto_region 6 with fail
    refine wp_over (fun V=>Hid (V.heap[w2.heap.size]? =some (.cells #[.int .i64 hol,.int .i64 vlt,.string str,.int .i64 ix,.int .i64 sz,.int .i64 day,.int .i64 ser,.int .i64 cnt,.int .i64 pl,.string root,.slice ap n1 c1,.int .i64 si,.slice aq n2 c2,.slice ar n3 c3] 47 (0,0)))∧Hid (Below w2.heap.size w2 V)) ⟨heap_alloc_new _ _,(Below.refl _ _).alloc (Nat.le_refl _) _⟩ ?_
    rintro X ⟨HG,HXB⟩
    have HX2:Hid (Below N w X):=hid (H2.o.trans (HXB.o.mono (HSZ.o _ H2.o)))
    have HO3:=hid (own_later HO2.o HXB.o)
    obtain ⟨A2,hA2⟩:=ex_eq w2.heap.size
    rw [hA2] at HG ⊢
    clear hA2 HXB
    obtain ⟨q0,_⟩:=row14 HG.o
    go_wp2_with (first
     | (at_builtin
        refine app_intG rfl _ _ rfl N u7 k ((carB m s n).take k) (by rfl) HO3.o (HSZ.o _ HX2.o) (by omega) hol 1 (by rfl) ?_
        intro v7 w7 ho hb
        have HO7:=hid ho
        have HB7:Hid (Below N w w7):=hid (HX2.o.trans hb)
        clear ho hb q0))
    go_roundw
    case rel=>exact ⟨k+1,hlt,by go_num,hid (by rw [HTK.o];exact HO7.o),HB7⟩
    case measure=>simp [intOf];omega
  | none=>
    rw [hcu] at HTK
    have HCU:=hid (refCurrent_none a c L xs HLE.o HL.o s (k:Int) (by rw [HM.o];exact hcu) wr (HXW.o _ HR.o))
    clear hcu
    go_upto_region 6 with fail
    go_at_call 45
    with_reducible refine HCU.o.mono ?_
    rintro e w2 ⟨rfl,hb⟩
    have H2:Hid (Below N w w2):=hid (HR.o.trans (hb.mono (HSZ.o _ HR.o)))
    have HO2:=hid (own_later HO.o hb)
    clear hb
    go_upto_region 6 with fail
    refine wp_over (fun V=>Hid (V.heap[w2.heap.size]? =some (.cells #[.int .i64 0,.int .i64 0,.string ByteArray.empty,.int .i64 0,.int .i64 0,.int .i64 0,.int .i64 0,.int .i64 0,.int .i64 0,.string ByteArray.empty,.slice none 0 0,.int .i64 0,.slice none 0 0,.slice none 0 0] 47 (0,0)))∧Hid (Below w2.heap.size w2 V)) ⟨heap_alloc_new _ _,(Below.refl _ _).alloc (Nat.le_refl _) _⟩ ?_
    rintro X0 ⟨HG0,HXB⟩
    obtain ⟨z0,_⟩:=row14 HG0.o
    have zf: ∀j,X0.frozen? ⟨w2.heap.size,j,none⟩=false:=fun j=>frozen_of_row _ _ _ _ _ HG0.o
    have HAS:Hid (N≤w2.heap.size):=hid (HSZ.o _ H2.o)
    go_upto_region 8 with fail
    have hq:=heap_setCell_same X0 w2.heap.size 0 _ _ (.int .i64 (-1)) HG0.o
    have hbx:Below w2.heap.size w2 (X0.setCell ⟨w2.heap.size,0,none⟩ (.int .i64 (-1))):=HXB.o.setCell (p:=⟨w2.heap.size,0,none⟩) (Nat.le_refl _) _
    obtain ⟨X,hXX⟩:=ex_eq (X0.setCell ⟨w2.heap.size,0,none⟩ (.int .i64 (-1)))
    rw [hXX] at hq hbx ⊢
    have HG:=hid hq
    have HX2:Hid (Below N w X):=hid (H2.o.trans (hbx.mono HAS.o))
    have HO3:=hid (own_later HO2.o hbx)
    clear hq hbx hXX z0 zf HG0 HXB
    obtain ⟨A2,hA2⟩:=ex_eq w2.heap.size
    rw [hA2] at HG ⊢
    clear hA2
    have q0:X.cell? ⟨A2,0,none⟩=some (.int .i64 (-1)):=cr HG.o
    go_wp2_with (first
     | (at_builtin
        refine app_intG rfl _ _ rfl N u7 k ((carB m s n).take k) (by rfl) HO3.o (HSZ.o _ HX2.o) (by omega) (-1) 1 (by rfl) ?_
        intro v7 w7 ho hb
        have HO7:=hid ho
        have HB7:Hid (Below N w w7):=hid (HX2.o.trans hb)
        clear ho hb q0))
    go_roundw
    case rel=>exact ⟨k+1,hlt,by go_num,hid (by rw [HTK.o];exact HO7.o),HB7⟩
    case measure=>simp [intOf];omega
end Go.Proofs.YtndlihclgdkpaaaGreatDoor
