/- The document's Issue. -/
import Derived.Test.YtndlihclgdkpaaaGreatDoorGg
import Derived.Test.YtndlihclgdkpaaaGreatDoorGl
import Derived.Test.YtndlihclgdkpaaaGreatDoorGn
import Derived.Test.YtndlihclgdkpaaaGreatDoorGp
import Derived.Test.YtndlihclgdkpaaaGreatDoorQpt
import Derived.Test.YtndlihclgdkpaaaGreatDoorRps
import Derived.Test.YtndlihclgdkpaaaGreatDoorQis
set_option linter.unusedVariables false
set_option linter.unusedSimpArgs false
open Go.Lib (hid)
namespace Go.Proofs.YtndlihclgdkpaaaGreatDoor
open Go.RowKit
open Kit (Chg)
open Sha (v)
open Go.Proofs.YtndlihclgdkpaaaGreatDoor.One

def IssO (b t:Nat) (sd:List Nat) (idx:Nat) (hol day ser:Int) (L:Nat) (ps:List Pr) (e:Ending) (w':World):Prop:=
 (issOk hol day ser L ps=false∧e= .returned (.tuple #[.slice none 0 0,.int .i64 1]))∨
 (issOk hol day ser L ps=true∧2 ^ t≤idx∧e= .returned (.tuple #[.slice none 0 0,.int .i64 12]))∨
 (issOk hol day ser L ps=true∧idx<2 ^ t∧ ∃(a:Option Addr) (c:Nat) (ys:List RcV),e= .returned (.tuple #[.slice a L c,.int .i64 0])∧ys.map RcV.r=batchP b t sd idx hol.toNat day.toNat ser.toNat ps∧ys.length=L∧RcsAt w' a ys)
section
variable {ops:Array Oper} {rest:List Oper} {o:Oper} {a:Act} {Q:Exit→Act→World→Prop}
theorem app_strG {w0:World} (hgd:o.guard=none) (s x:Operand) (ho:o.op= .call { callee:= .builtin .append,args:= #[s,x],argTypes:= #[43, 43] })
    (base:Nat) (v:Value) (L:Nat) (cur:List ByteArray) (hs:a.eval s=v) (hown:w0.ownsRow base 9 1 v L (strV cur)) (hb:base≤w0.heap.size) (hL:L≤1000000000000)
    (b:ByteArray) (c:Nat) (hx:a.eval x= .slice (some ⟨w0.heap.size,0,none⟩) 1 c)
    (h: ∀v' w',w'.ownsRow base 9 1 v' (L+1) (strV (cur++[b]))→(w0.alloc (.cells #[.string b] 9)).grownBy w' v.ownBlock→wpList Tryz.prog ops Q rest (a.put o.dst v') w'):wpList Tryz.prog ops Q (o::rest) a (w0.alloc (.cells #[.string b] 9)):=by
 obtain ⟨i0,hi,hz0,hz1,hz2⟩:=info_parts Tryz.info9
 refine wpList_append_own _ hgd s x 43 ho base 9 i0 (.string ByteArray.empty) 1 16 Tryz.underlying43 hi hz0 hz1 hz2 rfl (by decide) v L (strV cur) hs (hown.alloc _) ⟨w0.heap.size,0,none⟩ 1 c [.string b] hx rfl (cell_one_new _ _ _) (by simp [Value.oneCell']) (by unfold maxLen;omega) (by omega) (by simp;omega) ?_
 intro v' w4 hown4 hgr4 _
 exact h v' w4 (by rw [show strV (cur++[b])=strV cur++[.string b] from by simp [strV]];exact hown4) hgr4
end
theorem own_apart {w:World} {B n m s1 s2:Nat} {T1 T2:TypeId} {u v:Value} {xs ys:List Value} (h:w.ownsRow B T1 s1 u n xs) (k:w.ownsRow B T2 s2 v m ys) (hT:T1≠T2): ∀q,u.ownBlock=some q→v.ownBlock=some q→False:=by
 intro q h1 h2
 rcases h.2 with ⟨rfl,_⟩ | ⟨g,cap,cur,rfl,_,hg,_⟩
 ·cases h1
 rcases k.2 with ⟨rfl,_⟩ | ⟨g',cap',cur',rfl,_,hg',_⟩
 ·cases h2
 cases h1
 cases h2
 rw [hg] at hg'
 cases hg'
 exact hT rfl
theorem own_grown {w w':World} {B n m s1 s2:Nat} {T1 T2:TypeId} {u v:Value} {xs ys:List Value} (h:w.ownsRow B T1 s1 u n xs) (k:w.ownsRow B T2 s2 v m ys) (hT:T1≠T2) (hg:w.grownBy w' v.ownBlock):w'.ownsRow B T1 s1 u n xs:=
 ownsRow_keepM h (Chg.of_grown (M:=fun q _=>v.ownBlock=some q) hg (fun k i e=>e)) (fun q hq i e=>own_apart h k hT q hq e)
theorem own_emptyR {w:World} {base:Nat} (h:base≤w.heap.size):(w.alloc (.cells #[] 47)).ownsRow base 47 14 (.slice (some ⟨w.heap.size,0,none⟩) 0 0) 0 (rcv []):=⟨rfl,.inr ⟨w.heap.size,0,#[],rfl,h,heap_alloc_new w _,Nat.le_refl _,by decide,rfl,rfl⟩⟩
theorem below_grown {w w':World} {B N n s:Nat} {T:TypeId} {v:Value} {xs:List Value} (h:w.ownsRow B T s v n xs) (hg:w.grownBy w' v.ownBlock) (hN:N≤B) (hs:N≤w.heap.size):Below N w w':=
 (Chg.of_grown (M:=fun q _=>v.ownBlock=some q) hg (fun k i e=>e)).below hs (fun q i hq e=>by
   have:=own_lt h e
   omega)
theorem RowN.putMid {α:Type} {f:α→List Value} {n:Nat} {T:TypeId} (hf: ∀x,(f x).length=n) {w:World} {bl cap:Nat} {xs:List α} (h:RowN f n T w bl cap xs) (k:Nat) (hk:k<xs.length) (y:α) (j:Nat) (vs:List Value) (hj:j+vs.length≤n) (hy:f y=(f xs[k]).take j++(vs++(f xs[k]).drop (j+vs.length))):RowN f n T (putL bl (k*n+j) vs w) bl cap (xs.set k y):=by
 obtain ⟨r,hg,h1,h2,h3⟩:=h
 refine ⟨r,?_,by rw [List.length_set];exact h1,h2,?_⟩
 ·have hl:((xs.take k).flatMap f++(f xs[k]).take j).length=k*n+j:=by rw [List.length_append,rw_len hf,List.length_take,List.length_take,hf,Nat.min_eq_left (by omega),Nat.min_eq_left (by omega)]
  have e1:(xs.flatMap f++r)=((xs.take k).flatMap f++(f xs[k]).take j)++(((f xs[k]).drop j).take vs.length++((f xs[k]).drop (j+vs.length)++((xs.drop (k+1)).flatMap f++r))):=by
   have e2:f xs[k]=(f xs[k]).take j++(((f xs[k]).drop j).take vs.length++(f xs[k]).drop (j+vs.length)):=by
    rw [← List.drop_drop,List.take_append_drop,List.take_append_drop]
   rw [rw_cut xs k hk]
   generalize (f xs[k]).take j=A,((f xs[k]).drop j).take vs.length=B,(f xs[k]).drop (j+vs.length)=C at e2 ⊢
   rw [e2]
   simp only [List.append_assoc]
  rw [e1] at hg
  have h4:=putL_mid vs _ (((f xs[k]).drop j).take vs.length) _ w hg (by rw [List.length_take,List.length_drop,hf];omega)
  rw [hl] at h4
  rw [rw_set xs k hk y,hy]
  simpa only [List.append_assoc] using h4
 ·rw [List.length_append,rw_len hf] at h3 ⊢
  rw [List.length_set]
  exact h3
set_option maxRecDepth 100000 in
set_option maxHeartbeats 4000000 in
theorem refIssue43_any {b t:Nat} (hbt:Bits b) (ht8:t≤8) (seed:ByteArray) (hs:seed.size=32) (idx:Nat) (hix:idx≤1000) (hol day ser:Int) (a:Option Addr) (c L:Nat) (ps:List Pr) (hLe:ps.length=L) (hL3:L≤300) (w:World) (hLd:Laid w) (hP:PrsAt w a ps):
    Calls Tryz.prog 20 #[.agg #[.int .i64 (b:Int),.int .i64 (t:Int)],.string seed,.int .i64 (idx:Int),.int .i64 hol,.int .i64 day,.int .i64 ser,.slice a L c] w fun e w'=>IssO b t (nb seed) idx hol day ser L ps e w'∧Below w.heap.size w w':=by
 obtain ⟨D1,hD1⟩:=ex_eq (inB hol 0 11)
 obtain ⟨D2,hD2⟩:=ex_eq (inB day 0 999999)
 obtain ⟨D3,hD3⟩:=ex_eq (inB (L:Int) 1 256)
 obtain ⟨D4,hD4⟩:=ex_eq (inB ser 0 (1099511627776 - (L:Int)+1))
 have HW1:=hid (fun w=>refWithinR_any hol 0 11 w)
 have HW2:=hid (fun w=>refWithinR_any day 0 999999 w)
 have HW3:=hid (fun w=>refWithinR_any (L:Int) 1 256 w)
 have HW4:=hid (fun w=>refWithinR_any ser 0 (1099511627776 - (L:Int)+1) w)
 rw [hD1] at HW1
 rw [hD2] at HW2
 rw [hD3] at HW3
 rw [hD4] at HW4
 have hw1:IntKind.i64.wrap (1099511627776 - (L:Int))=1099511627776 - (L:Int):=by rw [IntKind.wrap_i64];omega
 have hw2:IntKind.i64.wrap (1099511627776 - (L:Int)+1)=1099511627776 - (L:Int)+1:=by rw [IntKind.wrap_i64];omega
 have HLE:=hid hLe
 have HLD:=hid hLd
 have HPR:=hid hP
 have HSD:=hid (And.intro hbt (And.intro ht8 (And.intro hs hix)))
 clear hbt ht8 hs hix hLe hLd hP
 go_enter Tryz.func20,Tryz.ntmps20
 go_upto_region 1 with fail
 refine wp_over (fun W=>Hid (W.heap[w.heap.size]? =some (.cells #[.int .i64 (b:Int),.int .i64 (t:Int)] 23 (0,0)))∧Hid (Below w.heap.size w W)∧Hid (W.heap.size=w.heap.size+1)) ⟨heap_alloc_new _ _,(Below.refl _ _).alloc (Nat.le_refl _) _,by show _=_;simp⟩ ?_
 rintro W ⟨HG,HB,HWS⟩
 cases D1
 ·have HIS:Hid (issOk hol day ser L ps=false):=hid (by
     cases hc:issOk hol day ser L ps with
     | false=>rfl
     | true=>
       exfalso
       obtain ⟨⟨p1,p2⟩,⟨p3,p4⟩,p5,⟨p6,p7⟩,p8,_⟩:=issOk_iff hc
       have h0:=inB_iff.2 ⟨p1,p2⟩
       rw [hD1] at h0
       cases h0)
  clear hD1
  go_wp2_with (first
   | (go_at_call 95
      (with_reducible refine (HW1.o _).mono ?_)
      rintro e w2 ⟨rfl,rfl⟩)
   | (go_at_call 95
      (with_reducible refine (HW2.o _).mono ?_)
      rintro e w2 ⟨rfl,rfl⟩)
   | (go_at_call 95
      (with_reducible refine (HW3.o _).mono ?_)
      rintro e w2 ⟨rfl,rfl⟩)
   | (go_at_call 95
      (with_reducible refine (HW4.o _).mono ?_)
      rintro e w2 ⟨rfl,rfl⟩))
  go_ret2
  exact ⟨.inl ⟨HIS.o,rfl⟩,HB.o⟩
 cases D2
 ·have HIS:Hid (issOk hol day ser L ps=false):=hid (by
     cases hc:issOk hol day ser L ps with
     | false=>rfl
     | true=>
       exfalso
       obtain ⟨⟨p1,p2⟩,⟨p3,p4⟩,p5,⟨p6,p7⟩,p8,_⟩:=issOk_iff hc
       have h0:=inB_iff.2 ⟨p3,p4⟩
       rw [hD2] at h0
       cases h0)
  clear hD1 hD2
  go_wp2_with (first
   | (go_at_call 95
      (with_reducible refine (HW1.o _).mono ?_)
      rintro e w2 ⟨rfl,rfl⟩)
   | (go_at_call 95
      (with_reducible refine (HW2.o _).mono ?_)
      rintro e w2 ⟨rfl,rfl⟩)
   | (go_at_call 95
      (with_reducible refine (HW3.o _).mono ?_)
      rintro e w2 ⟨rfl,rfl⟩)
   | (go_at_call 95
      (with_reducible refine (HW4.o _).mono ?_)
      rintro e w2 ⟨rfl,rfl⟩))
  go_ret2
  exact ⟨.inl ⟨HIS.o,rfl⟩,HB.o⟩
 cases D3
 ·have HIS:Hid (issOk hol day ser L ps=false):=hid (by
     cases hc:issOk hol day ser L ps with
     | false=>rfl
     | true=>
       exfalso
       obtain ⟨⟨p1,p2⟩,⟨p3,p4⟩,p5,⟨p6,p7⟩,p8,_⟩:=issOk_iff hc
       have h0:=inB_iff.2 (And.intro (show (1:Int)≤(L:Int) by omega) (show (L:Int)≤256 by omega))
       rw [hD3] at h0
       cases h0)
  clear hD1 hD2 hD3
  go_wp2_with (first
   | (go_at_call 95
      (with_reducible refine (HW1.o _).mono ?_)
      rintro e w2 ⟨rfl,rfl⟩)
   | (go_at_call 95
      (with_reducible refine (HW2.o _).mono ?_)
      rintro e w2 ⟨rfl,rfl⟩)
   | (go_at_call 95
      (with_reducible refine (HW3.o _).mono ?_)
      rintro e w2 ⟨rfl,rfl⟩)
   | (go_at_call 95
      (with_reducible refine (HW4.o _).mono ?_)
      rintro e w2 ⟨rfl,rfl⟩))
  go_ret2
  exact ⟨.inl ⟨HIS.o,rfl⟩,HB.o⟩
 cases D4
 ·have HIS:Hid (issOk hol day ser L ps=false):=hid (by
     cases hc:issOk hol day ser L ps with
     | false=>rfl
     | true=>
       exfalso
       obtain ⟨⟨p1,p2⟩,⟨p3,p4⟩,p5,⟨p6,p7⟩,p8,_⟩:=issOk_iff hc
       have h0:=inB_iff.2 (And.intro p5 (show ser≤1099511627776 - (L:Int)+1 by omega))
       rw [hD4] at h0
       cases h0)
  clear hD1 hD2 hD3 hD4
  go_wp2_with (first
   | (go_at_call 95
      (with_reducible refine (HW1.o _).mono ?_)
      rintro e w2 ⟨rfl,rfl⟩)
   | (go_at_call 95
      (with_reducible refine (HW2.o _).mono ?_)
      rintro e w2 ⟨rfl,rfl⟩)
   | (go_at_call 95
      (with_reducible refine (HW3.o _).mono ?_)
      rintro e w2 ⟨rfl,rfl⟩)
   | (go_at_call 95
      (with_reducible refine (HW4.o _).mono ?_)
      rintro e w2 ⟨rfl,rfl⟩))
  go_ret2
  exact ⟨.inl ⟨HIS.o,rfl⟩,HB.o⟩
 have HIN:Hid ((0≤hol∧hol≤11)∧(0≤day∧day≤999999)∧(1≤L∧L≤256)∧0≤ser∧ser≤1099511627776 - (L:Int)+1):=hid (by
  have a1:=inB_iff.1 hD1
  have a2:=inB_iff.1 hD2
  have a3:=inB_iff.1 hD3
  have a4:=inB_iff.1 hD4
  omega)
 clear hD1 hD2 hD3 hD4
 obtain ⟨H,rfl⟩: ∃n:Nat,hol=(n:Int):=⟨hol.toNat,by have:=HIN.o;omega⟩
 obtain ⟨D,rfl⟩: ∃n:Nat,day=(n:Int):=⟨day.toNat,by have:=HIN.o;omega⟩
 obtain ⟨S,rfl⟩: ∃n:Nat,ser=(n:Int):=⟨ser.toNat,by have:=HIN.o;omega⟩
 have hL1:1≤L∧L≤256:=HIN.o.2.2.1
 obtain ⟨N,hN⟩:=ex_eq w.heap.size
 have HN:=hid hN
 have HBW:Hid (∀V,Below (N+1) W V→Below w.heap.size w V):=hid (fun V h=>HB.o.trans (h.mono (by omega)))
 rw [hN] at HG HB HWS ⊢
 clear hN
 have HCE:Hid (∀V,Below (N+1) W V→V.cell? ⟨N,0,none⟩=some (.int .i64 (b:Int))∧V.cell? ⟨N,1,none⟩=some (.int .i64 (t:Int))):=hid (fun V h=>by
  have e1:=(h.block N (Nat.lt_succ_self N)).trans HG.o
  exact ⟨cr e1,cr e1⟩)
 have HST:Hid (∀V V',Below (N+1) W V→Below V.heap.size V V'→Below (N+1) W V'):=hid (fun V V' h h'=>h.trans (h'.mono (by have:=h.size;have:=HWS.o;omega)))
 have HSZ:Hid (∀V,Below (N+1) W V→N+1≤V.heap.size):=hid (fun V h=>by have:=h.size;have:=HWS.o;omega)
 go_upto_region 4 with (first
  | (go_at_call 95
     (with_reducible refine (HW1.o _).mono ?_)
     rintro e w2 ⟨rfl,rfl⟩)
  | (go_at_call 95
     (with_reducible refine (HW2.o _).mono ?_)
     rintro e w2 ⟨rfl,rfl⟩)
  | (go_at_call 95
     (with_reducible refine (HW3.o _).mono ?_)
     rintro e w2 ⟨rfl,rfl⟩)
  | (go_at_call 95
     (with_reducible refine (HW4.o _).mono ?_)
     rintro e w2 ⟨rfl,rfl⟩))
 have HO0:Hid ((W.alloc (.cells #[] 47)).ownsRow (N+1) 47 14 (.slice (some ⟨W.heap.size,0,none⟩) 0 0) 0 (rcv [])):=hid (own_emptyR (by have:=HWS.o;omega))
 refine wp_over (fun V=>Hid (V.ownsRow (N+1) 47 14 (.slice (some ⟨W.heap.size,0,none⟩) 0 0) 0 (rcv []))∧Hid (Below (N+1) W V)) ⟨HO0,hid ((Below.refl _ _).alloc (by have:=HWS.o;omega) _)⟩ ?_
 rintro Y1 ⟨HY1,HYB1⟩
 go_upto_region 5 with fail
 refine wp_over (fun V=>Hid (V.ownsRow (N+1) 47 14 (.slice (some ⟨W.heap.size,0,none⟩) 0 0) 0 (rcv []))∧Hid (V.ownsRow (N+1) 9 1 (.slice (some ⟨Y1.heap.size,0,none⟩) 0 0) 0 (strV []))∧Hid (Below (N+1) W V)) ⟨hid (own_later HY1.o ((Below.refl _ _).alloc (Nat.le_refl _) _)),hid (own_empty_strs (HSZ.o _ HYB1.o)),hid (HYB1.o.alloc (HSZ.o _ HYB1.o) _)⟩ ?_
 rintro Y2 ⟨HY2,HYS2,HYB2⟩
 clear HO0 HY1
 go_upto_region 6 with fail
 go_loopw [16,17,18] (fun x1 x2 y wr=> ∃k:Nat,k≤L∧y= .int .i64 (k:Int)∧Hid (∀j (h:j<ps.length),j<k→ps[j].good=true)∧Hid (wr.ownsRow (N+1) 47 14 x1 k (rcv (basesV H D S L ps k)))∧Hid (∃vs:List ByteArray,vs.length=k∧(∀i (h:i<vs.length),nb vs[i]=leafR (baseR H D S L i (ps.getD i zeroPr))∧vs[i].size=32)∧wr.ownsRow (N+1) 9 1 x2 k (strV vs))∧Hid (Below (N+1) W wr)) (fun _ _ y _=>L - (intOf y).toNat)
 case atStart=>exact ⟨0,Nat.zero_le _,rfl,hid (fun j _ h=>absurd h (Nat.not_lt_zero j)),HY2,hid ⟨[],rfl,(fun i h=>absurd h (Nat.not_lt_zero i)),HYS2.o⟩,HYB2⟩
 case round=>
  obtain ⟨k,hk,rfl,HGD,HRO,HRL,HRB⟩:=hrel
  by_cases hlt:k<L
  rotate_left
  ·have hki: ¬(k:Int)<(L:Int):=by omega
   have hke:k=L:=by omega
   rw [hke] at HRO HRL HGD
   have HAG:Hid (allGood ps=true):=hid (List.all_eq_true.2 (fun p hp=>by
    obtain ⟨j,hj,rfl⟩:=List.mem_iff_getElem.1 hp
    exact HGD.o j hj (by rw [← HLE.o];exact hj)))
   obtain ⟨hshl,hP8⟩:=fit_pow (t:=t) HSD.o.2.1
   have hshl0:wrap64 ((2:Int) ^ t)=((2 ^ t:Nat):Int):=by
    rw [show (2:Int) ^ t=((2 ^ t:Nat):Int) from (Int.natCast_pow 2 t).symm]
    obtain ⟨q,hq⟩:=ex_eq (2 ^ t)
    rw [hq] at hP8 ⊢
    exact IntWalk.wrap64_in _ ⟨by omega,by omega⟩
   have hmin:min t 64=t:=by have:=HSD.o.2.1;omega
   obtain ⟨P,hP⟩:=ex_eq (2 ^ t)
   rw [hP] at hshl hshl0 hP8
   have HPT:=hid hP
   clear hP
   obtain ⟨f0,f1⟩:=HCE.o _ HRB.o
   have HIS:Hid (issOk (H:Int) (D:Int) (S:Int) L ps=true):=hid (by
    have h:=HIN.o
    unfold issOk
    simp only [Bool.and_eq_true,decide_eq_true_eq]
    exact ⟨inB_iff.2 h.1,inB_iff.2 h.2.1,by omega,inB_iff.2 (And.intro (show (1:Int)≤(L:Int) by omega) (show (L:Int)≤256 by omega)),by omega,HAG.o⟩)
   by_cases hsp:P≤idx
   ·have hspi:(P:Int)≤(idx:Int):=by omega
    go_wp2_with fail
    go_ret2
    exact ⟨.inr (.inl ⟨HIS.o,by rw [HPT.o];exact hsp,rfl⟩),by first | exact HBW.o _ HRB.o | (rw [HN.o];exact HBW.o _ HRB.o)⟩
   have hspi: ¬(P:Int)≤(idx:Int):=by omega
   obtain ⟨vs,hv1,hv2,hv3⟩:=HRL.o
   obtain ⟨a2,cp2,rfl,hl2,hc2,hS2,_,hbk2⟩:=strs_of_own hv3
   obtain ⟨bo,capo,rfl⟩:=own_some HRO.o hL1.1
   have HV1:=hid hv1
   have HC2:Hid (L≤cp2):=hid (by rw [← hl2];exact hc2)
   have HV32:Hid (∀s ∈ vs,s.size=32):=hid (fun s hs=>by
    obtain ⟨i,hi,rfl⟩:=List.mem_iff_getElem.1 hs
    exact (hv2 i hi).2)
   have HVN:Hid (vs.map nb=leavesP H D S L ps):=hid (leavesP_of hv1 hv2)
   have HVS:=hid hS2
   have HVO:=hid (own_apart HRO.o hv3 (by decide) bo rfl)
   have HRN:Hid (RowN RcV.cells 14 47 wr bo capo (basesV H D S L ps L)∧N+1≤bo):=hid (RowN.of RcV.len HRO.o (basesV_len _ _ _ _ _ _))
   have HLW:Hid (∀V,Below wr.heap.size wr V→Laid V):=hid (fun V h=>HLD.o.later (HBW.o _ (HRB.o.trans (h.mono (HSZ.o _ HRB.o)))) (by first | exact Nat.le_refl _ | (rw [HN.o];exact Nat.le_refl _)))
   have HCR:Hid (∀V,Below wr.heap.size wr V→V.cell? ⟨N,0,none⟩=some (.int .i64 (b:Int))∧V.cell? ⟨N,1,none⟩=some (.int .i64 (t:Int))):=hid (fun V h=>HCE.o V (HRB.o.trans (h.mono (HSZ.o _ HRB.o))))
   have HRT:=hid (refRootM_ok L hL1.1 hL1.2 a2 cp2 vs HV1.o HC2.o HV32.o wr HVS.o (HLW.o _ (Below.refl _ _)))
   clear hv1 hv2 hv3 hl2 hc2 hS2 hbk2 HRL
   go_upto_region 16 with (first
    | (go_at_call 97
       (with_reducible refine HRT.o.mono ?_)
       rintro e wa ⟨ro,rfl,hro,hz,ha⟩
       have HRO2:=hid hro
       have HRZ:=hid hz
       have HA:=hid ha
       clear hro hz ha f0 f1))
   have HBT:=hid (fun w=>refBatch_ok ro HRZ.o L (by omega) _ rfl w)
   have HSGN:=hid (fun (u:ByteArray) hu w=>refSigSign_ok b t idx HSD.o.1 HSD.o.2.1 (by rw [HPT.o];omega) seed HSD.o.2.2.1 u hu w)
   apply Kit.join8 (F:=(fun A2 u9 b1 m1 d1 b2 m2 d2 w12=> ∃ps2 qs2:List ByteArray,Hid (w12.heap[A2]? =some (.cells #[.int .i64 (idx:Int),.slice b1 m1 d1,.slice b2 m2 d2] 45 (0,0)))∧Hid (StrsAt w12 b1 ps2∧StrsAt w12 b2 qs2)∧Hid (Below wr.heap.size wr w12)∧Hid (ps2.length=m1∧qs2.length=m2)∧Hid (ps2.map nb=sigParts b (nb seed) idx (batchR (nb ro) L)∧qs2.map nb=sigPath b (nb seed) t idx)∧Hid (wr.heap.size≤A2)))
   case main=>
    intro HJ
    refine Kit.wp_region_tplan (fun V=>V.cell? ⟨N,0,none⟩=some (.int .i64 (b:Int))∧V.cell? ⟨N,1,none⟩=some (.int .i64 (t:Int))) (.heads [0,1,2,3,4,6] (.op2 5 (.op2 7 (.op1 8 (.op1 9 .done)) 8 (.op1 7 (.op1 9 .done))) 8 (.op1 5 (.op1 7 (.op1 9 .done))))) (by kernel_rfl) (by kernel_rfl) (by kernel_rfl) (by kernel_rfl) (HCR.o _ (HA.o).drew) ?_
    iterate 6 (refine Kit.thd (h:= ?_))
    obtain ⟨w20,hw20⟩:=ex_eq wa.drew
    have H20:Hid (Below wr.heap.size wr w20):=hid (by rw [← hw20];exact HA.o.drew)
    rw [hw20]
    clear hw20
    refine Kit.tplan_op2 ?_ ?_
    rotate_left
    focus (
     refine Kit.tplan_op1 (by rfl) (by rfl) fun K' hK'=> ?_
     go_simp
     have hra:=heap_alloc_new w20 (.cells #[.int .i64 0,.slice none 0 0,.slice none 0 0] 45)
     have hba:Below w20.heap.size w20 (w20.alloc (.cells #[.int .i64 0,.slice none 0 0,.slice none 0 0] 45)):=(Below.refl _ _).alloc (Nat.le_refl _) _
     obtain ⟨w11,hw11⟩:=ex_eq (w20.alloc (.cells #[.int .i64 0,.slice none 0 0,.slice none 0 0] 45))
     rw [hw11] at hra hba ⊢
     have HAM:Hid (wr.heap.size≤w20.heap.size):=hid H20.o.size
     have H11:Hid (Below wr.heap.size wr w11):=hid (H20.o.trans (hba.mono H20.o.size))
     have HBA:=hid hba
     obtain ⟨A2,hA2⟩:=ex_eq w20.heap.size
     rw [hA2] at hra HAM ⊢
     have HRA:=hid hra
     clear hra hba hw11 hA2
     refine hK' _ _ (HCR.o _ H11.o) ?_
     clear hK' K'
     refine Kit.tplan_op1 (by rfl) (by rfl) fun K' hK'=> ?_
     go_simp
     go_at_call 99
     with_reducible refine (HBT.o _).mono ?_
     rintro e w9 ⟨u9,rfl,hu9,hz9,h9⟩
     have HU9:=hid hu9
     have HZ9:=hid hz9
     have H9:Hid (Below wr.heap.size wr w9):=hid (H11.o.trans (h9.mono H11.o.size))
     replace HRA:=hid ((h9.block A2 (gS HRA.o).1).trans HRA.o)
     clear hu9 hz9 h9
     refine hK' _ _ (HCR.o _ H9.o) ?_
     clear hK' K'
     refine Kit.tplan_op1 (by rfl) (by rfl) fun K' hK'=> ?_
     go_simp
     go_at_call 98
     with_reducible refine (HSGN.o u9 HZ9.o _).mono ?_
     rintro e w10 ⟨x10,ps2,qs2,rfl,hx10,hps2,hqs2,h10⟩
     obtain ⟨b1,m1,d1,b2,m2,d2,rfl,hm1,hA1,hm2,hA2⟩:=hx10
     have H10:Hid (Below wr.heap.size wr w10):=hid (H9.o.trans (h10.mono H9.o.size))
     have HS1:=hid hA1
     have HS2:=hid hA2
     have HLM:=hid (And.intro hm1 hm2)
     have HPQ:Hid (ps2.map nb=sigParts b (nb seed) idx (batchR (nb ro) L)∧qs2.map nb=sigPath b (nb seed) t idx):=hid ⟨by rw [hps2,HU9.o],hqs2⟩
     replace HRA:=hid ((h10.block A2 (gS HRA.o).1).trans HRA.o)
     clear h10 hps2 hqs2 hm1 hm2 hA1 hA2
     refine hK' _ _ (HCR.o _ H10.o) ?_
     clear hK' K'
     have hz3:=HRA.o
     have z0:w10.cell? ⟨A2,0,none⟩=some (.int .i64 0):=cr hz3
     have z1:w10.cell? ⟨A2,1,none⟩=some (.slice none 0 0):=cr hz3
     have z2:w10.cell? ⟨A2,2,none⟩=some (.slice none 0 0):=cr hz3
     clear hz3
     have zf: ∀j,w10.frozen? ⟨A2,j,none⟩=false:=fun j=>frozen_of_row _ _ _ _ _ HRA.o
     refine Kit.tplan_op1 (by rfl) (by rfl) fun K' hK'=> ?_
     go_simp
     have hr:=row3 (x0:= .int .i64 (idx:Int)) (x1:= .slice b1 m1 d1) (x2:= .slice b2 m2 d2) HRA.o
     have hs1:=strs3 (x0:= .int .i64 (idx:Int)) (x1:= .slice b1 m1 d1) (x2:= .slice b2 m2 d2) HS1.o HRA.o
     have hs2:=strs3 (x0:= .int .i64 (idx:Int)) (x1:= .slice b1 m1 d1) (x2:= .slice b2 m2 d2) HS2.o HRA.o
     have hbl:=below3 (x0:= .int .i64 (idx:Int)) (x1:= .slice b1 m1 d1) (x2:= .slice b2 m2 d2) H10.o HAM.o
     obtain ⟨w12,hw12⟩:=ex_eq (((w10.setCell ⟨A2,0,none⟩ (.int .i64 (idx:Int))).setCell ⟨A2,1,none⟩ (.slice b1 m1 d1)).setCell ⟨A2,2,none⟩ (.slice b2 m2 d2))
     rw [hw12] at hr hs1 hs2 hbl ⊢
     have HY12:=hid hr
     have HS12:=hid (And.intro hs1 hs2)
     have H12:=hid hbl
     clear hr hs1 hs2 hbl hw12 z0 z1 z2 zf HRA HS1 HS2 HBA
     refine hK' _ _ (HCR.o _ H12.o) ?_
     clear hK' K'
     refine Kit.tplan_done ?_
     (try simp only [Act.put,List.setIfInBounds_toArray,List.set_cons_zero,List.set_cons_succ])
     exact HJ A2 u9 b1 m1 d1 b2 m2 d2 w12 ⟨ps2,qs2,HY12,HS12,H12,HLM,HPQ,HAM⟩)
    refine Kit.tplan_op1 (by rfl) (by rfl) fun K' hK'=> ?_
    go_simp
    go_at_call 99
    with_reducible refine (HBT.o _).mono ?_
    rintro e w9 ⟨u9,rfl,hu9,hz9,h9⟩
    have HU9:=hid hu9
    have HZ9:=hid hz9
    have H9:Hid (Below wr.heap.size wr w9):=hid (H20.o.trans (h9.mono H20.o.size))
    clear hu9 hz9 h9
    refine hK' _ _ (HCR.o _ H9.o) ?_
    clear hK' K'
    refine Kit.tplan_op2 ?_ ?_
    focus (
     refine Kit.tplan_op1 (by rfl) (by rfl) fun K' hK'=> ?_
     go_simp
     go_at_call 98
     with_reducible refine (HSGN.o u9 HZ9.o _).mono ?_
     rintro e w10 ⟨x10,ps2,qs2,rfl,hx10,hps2,hqs2,h10⟩
     obtain ⟨b1,m1,d1,b2,m2,d2,rfl,hm1,hA1,hm2,hA2⟩:=hx10
     have H10:Hid (Below wr.heap.size wr w10):=hid (H9.o.trans (h10.mono H9.o.size))
     have HS1:=hid hA1
     have HS2:=hid hA2
     have HLM:=hid (And.intro hm1 hm2)
     have HPQ:Hid (ps2.map nb=sigParts b (nb seed) idx (batchR (nb ro) L)∧qs2.map nb=sigPath b (nb seed) t idx):=hid ⟨by rw [hps2,HU9.o],hqs2⟩
     clear h10 hps2 hqs2 hm1 hm2 hA1 hA2
     refine hK' _ _ (HCR.o _ H10.o) ?_
     clear hK' K'
     refine Kit.tplan_op1 (by rfl) (by rfl) fun K' hK'=> ?_
     go_simp
     have hra:=heap_alloc_new w10 (.cells #[.int .i64 0,.slice none 0 0,.slice none 0 0] 45)
     have hba:Below w10.heap.size w10 (w10.alloc (.cells #[.int .i64 0,.slice none 0 0,.slice none 0 0] 45)):=(Below.refl _ _).alloc (Nat.le_refl _) _
     obtain ⟨w11,hw11⟩:=ex_eq (w10.alloc (.cells #[.int .i64 0,.slice none 0 0,.slice none 0 0] 45))
     rw [hw11] at hra hba ⊢
     have HAM:Hid (wr.heap.size≤w10.heap.size):=hid H10.o.size
     have H11:Hid (Below wr.heap.size wr w11):=hid (H10.o.trans (hba.mono H10.o.size))
     have HBA:=hid hba
     obtain ⟨A2,hA2⟩:=ex_eq w10.heap.size
     rw [hA2] at hra HAM ⊢
     have HRA:=hid hra
     clear hra hba hw11 hA2
     refine hK' _ _ (HCR.o _ H11.o) ?_
     clear hK' K'
     replace HS1:=hid (HS1.o.later HBA.o)
     replace HS2:=hid (HS2.o.later HBA.o)
     have hz3:=HRA.o
     have z0:w11.cell? ⟨A2,0,none⟩=some (.int .i64 0):=cr hz3
     have z1:w11.cell? ⟨A2,1,none⟩=some (.slice none 0 0):=cr hz3
     have z2:w11.cell? ⟨A2,2,none⟩=some (.slice none 0 0):=cr hz3
     clear hz3
     have zf: ∀j,w11.frozen? ⟨A2,j,none⟩=false:=fun j=>frozen_of_row _ _ _ _ _ HRA.o
     refine Kit.tplan_op1 (by rfl) (by rfl) fun K' hK'=> ?_
     go_simp
     have hr:=row3 (x0:= .int .i64 (idx:Int)) (x1:= .slice b1 m1 d1) (x2:= .slice b2 m2 d2) HRA.o
     have hs1:=strs3 (x0:= .int .i64 (idx:Int)) (x1:= .slice b1 m1 d1) (x2:= .slice b2 m2 d2) HS1.o HRA.o
     have hs2:=strs3 (x0:= .int .i64 (idx:Int)) (x1:= .slice b1 m1 d1) (x2:= .slice b2 m2 d2) HS2.o HRA.o
     have hbl:=below3 (x0:= .int .i64 (idx:Int)) (x1:= .slice b1 m1 d1) (x2:= .slice b2 m2 d2) H11.o HAM.o
     obtain ⟨w12,hw12⟩:=ex_eq (((w11.setCell ⟨A2,0,none⟩ (.int .i64 (idx:Int))).setCell ⟨A2,1,none⟩ (.slice b1 m1 d1)).setCell ⟨A2,2,none⟩ (.slice b2 m2 d2))
     rw [hw12] at hr hs1 hs2 hbl ⊢
     have HY12:=hid hr
     have HS12:=hid (And.intro hs1 hs2)
     have H12:=hid hbl
     clear hr hs1 hs2 hbl hw12 z0 z1 z2 zf HRA HS1 HS2 HBA
     refine hK' _ _ (HCR.o _ H12.o) ?_
     clear hK' K'
     refine Kit.tplan_done ?_
     (try simp only [Act.put,List.setIfInBounds_toArray,List.set_cons_zero,List.set_cons_succ])
     exact HJ A2 u9 b1 m1 d1 b2 m2 d2 w12 ⟨ps2,qs2,HY12,HS12,H12,HLM,HPQ,HAM⟩)
    focus (
     refine Kit.tplan_op1 (by rfl) (by rfl) fun K' hK'=> ?_
     go_simp
     have hra:=heap_alloc_new w9 (.cells #[.int .i64 0,.slice none 0 0,.slice none 0 0] 45)
     have hba:Below w9.heap.size w9 (w9.alloc (.cells #[.int .i64 0,.slice none 0 0,.slice none 0 0] 45)):=(Below.refl _ _).alloc (Nat.le_refl _) _
     obtain ⟨w11,hw11⟩:=ex_eq (w9.alloc (.cells #[.int .i64 0,.slice none 0 0,.slice none 0 0] 45))
     rw [hw11] at hra hba ⊢
     have HAM:Hid (wr.heap.size≤w9.heap.size):=hid H9.o.size
     have H11:Hid (Below wr.heap.size wr w11):=hid (H9.o.trans (hba.mono H9.o.size))
     have HBA:=hid hba
     obtain ⟨A2,hA2⟩:=ex_eq w9.heap.size
     rw [hA2] at hra HAM ⊢
     have HRA:=hid hra
     clear hra hba hw11 hA2
     refine hK' _ _ (HCR.o _ H11.o) ?_
     clear hK' K'
     refine Kit.tplan_op1 (by rfl) (by rfl) fun K' hK'=> ?_
     go_simp
     go_at_call 98
     with_reducible refine (HSGN.o u9 HZ9.o _).mono ?_
     rintro e w10 ⟨x10,ps2,qs2,rfl,hx10,hps2,hqs2,h10⟩
     obtain ⟨b1,m1,d1,b2,m2,d2,rfl,hm1,hA1,hm2,hA2⟩:=hx10
     have H10:Hid (Below wr.heap.size wr w10):=hid (H11.o.trans (h10.mono H11.o.size))
     have HS1:=hid hA1
     have HS2:=hid hA2
     have HLM:=hid (And.intro hm1 hm2)
     have HPQ:Hid (ps2.map nb=sigParts b (nb seed) idx (batchR (nb ro) L)∧qs2.map nb=sigPath b (nb seed) t idx):=hid ⟨by rw [hps2,HU9.o],hqs2⟩
     replace HRA:=hid ((h10.block A2 (gS HRA.o).1).trans HRA.o)
     clear h10 hps2 hqs2 hm1 hm2 hA1 hA2
     refine hK' _ _ (HCR.o _ H10.o) ?_
     clear hK' K'
     have hz3:=HRA.o
     have z0:w10.cell? ⟨A2,0,none⟩=some (.int .i64 0):=cr hz3
     have z1:w10.cell? ⟨A2,1,none⟩=some (.slice none 0 0):=cr hz3
     have z2:w10.cell? ⟨A2,2,none⟩=some (.slice none 0 0):=cr hz3
     clear hz3
     have zf: ∀j,w10.frozen? ⟨A2,j,none⟩=false:=fun j=>frozen_of_row _ _ _ _ _ HRA.o
     refine Kit.tplan_op1 (by rfl) (by rfl) fun K' hK'=> ?_
     go_simp
     have hr:=row3 (x0:= .int .i64 (idx:Int)) (x1:= .slice b1 m1 d1) (x2:= .slice b2 m2 d2) HRA.o
     have hs1:=strs3 (x0:= .int .i64 (idx:Int)) (x1:= .slice b1 m1 d1) (x2:= .slice b2 m2 d2) HS1.o HRA.o
     have hs2:=strs3 (x0:= .int .i64 (idx:Int)) (x1:= .slice b1 m1 d1) (x2:= .slice b2 m2 d2) HS2.o HRA.o
     have hbl:=below3 (x0:= .int .i64 (idx:Int)) (x1:= .slice b1 m1 d1) (x2:= .slice b2 m2 d2) H10.o HAM.o
     obtain ⟨w12,hw12⟩:=ex_eq (((w10.setCell ⟨A2,0,none⟩ (.int .i64 (idx:Int))).setCell ⟨A2,1,none⟩ (.slice b1 m1 d1)).setCell ⟨A2,2,none⟩ (.slice b2 m2 d2))
     rw [hw12] at hr hs1 hs2 hbl ⊢
     have HY12:=hid hr
     have HS12:=hid (And.intro hs1 hs2)
     have H12:=hid hbl
     clear hr hs1 hs2 hbl hw12 z0 z1 z2 zf HRA HS1 HS2 HBA
     refine hK' _ _ (HCR.o _ H12.o) ?_
     clear hK' K'
     refine Kit.tplan_done ?_
     (try simp only [Act.put,List.setIfInBounds_toArray,List.set_cons_zero,List.set_cons_succ])
     exact HJ A2 u9 b1 m1 d1 b2 m2 d2 w12 ⟨ps2,qs2,HY12,HS12,H12,HLM,HPQ,HAM⟩)
   case rest=>
    rintro A2 u9 b1 m1 d1 b2 m2 d2 w12 ⟨ps2,qs2,HY12,HS12,H12,HLM,HPQ,HAM⟩
    have HBN:Hid (bo<wr.heap.size∧N+1≤bo):=hid ⟨HRN.o.1.lt,HRN.o.2⟩
    have HRO8:Hid (RowN RcV.cells 14 47 w12 bo capo (basesV H D S L ps L)):=hid (HRN.o.1.keep (H12.o.block bo HBN.o.1))
    have HZ32:Hid ((∀s ∈ ps2,s.size=32)∧ ∀s ∈ qs2,s.size=32):=hid (by
     have hdl:(batchR (nb ro) L).length=32:=by unfold batchR;exact Sha.sum_length _
     refine ⟨fun s hs=> ?_,fun s hs=> ?_⟩
     ·have h:=sigParts_32 b (nb seed) idx (batchR (nb ro) L) (nb s) (by rw [← HPQ.o.1];exact List.mem_map_of_mem hs)
      rw [nb_length] at h
      exact h
     ·have h:=sigPath_32 b (nb seed) t idx (nb s) (by rw [← HPQ.o.2];exact List.mem_map_of_mem hs)
      rw [nb_length] at h
      exact h)
    have HLN2:Hid (m1≤999∧m2≤8):=hid (by
     have e1:=congrArg List.length HPQ.o.1
     have e2:=congrArg List.length HPQ.o.2
     rw [List.length_map,sigParts_len b HSD.o.1 _ _ _ (by unfold batchR;exact Sha.sum_length _)] at e1
     rw [List.length_map,sigPath_len] at e2
     have:=count_le (n:=32) HSD.o.1 (Nat.le_refl _)
     have:=HLM.o
     have:=HSD.o.2.1
     omega)
    have HC0:Hid (∀V,Chg (fun q _=>q=bo) w12 V→Below wr.heap.size wr w12∧V.heap[A2]? =some (.cells #[.int .i64 (idx:Int),.slice b1 m1 d1,.slice b2 m2 d2] 45 (0,0))∧StrsAt V a2 vs∧Below (N+1) W V∧Laid V):=hid (fun V hc=>by
     have hlw:Laid w12:=HLW.o _ H12.o
     have hbv:Below (N+1) W V:=(HRB.o.trans (H12.o.mono (HSZ.o _ HRB.o))).trans (hc.below (by have:=HSZ.o _ HRB.o;have:=H12.o.size;omega) (fun q i hq e=>by have h1:q=bo:=e;have:=HBN.o;omega))
     refine ⟨H12.o,(hc.other A2 (gS HY12.o).1 (fun i e=>by have h1:A2=bo:=e;have:=HAM.o;have:=HBN.o;omega)).trans HY12.o,?_,hbv,HLD.o.later (HBW.o _ hbv) (by first | exact Nat.le_refl _ | (rw [HN.o];exact Nat.le_refl _))⟩
     exact (HVS.o.later H12.o).keep hc (fun ad e _ i hm=>by
      have h1:ad.block=bo:=hm
      refine HVO.o ?_
      rw [e]
      exact congrArg some h1))
    clear HLW
    go_upto_region 18 with fail
    go_loopw [22] (fun y wr=> ∃k:Nat,k≤L∧y= .int .i64 (k:Int)∧Hid (∃dn:List RcV,dn.length=k∧dn.map RcV.r=(List.range (k)).map (outR H D S L ps ro (idx:Int) ps2 qs2 (pthR H D S L ps))∧(∀x ∈ dn,x.a2=b1∧x.a3=b2∧x.r.parts=ps2∧x.r.sp=qs2∧x.r.path.length≤256∧StrsAt wr x.a1 x.r.path∧ ∀ad,x.a1=some ad→ad.block≠bo)∧RowN RcV.cells 14 47 wr bo capo (dn++(basesV H D S L ps L).drop (k)))∧Hid (StrsAt wr b1 ps2∧StrsAt wr b2 qs2)∧Hid (Chg (fun q _=>q=bo) w12 wr)) (fun y _=>L - (intOf y).toNat)
    case atStart=>exact ⟨0,Nat.zero_le _,rfl,hid ⟨[],rfl,rfl,(fun x hx=>by cases hx),by rw [List.nil_append,List.drop_zero];exact HRO8.o⟩,HS12,hid (Chg.refl _ _)⟩
    case round=>
     obtain ⟨k,hk,rfl,HDN,HSS,HCH⟩:=hrel
     obtain ⟨dn,g1,g2,g3,g4⟩:=HDN.o
     by_cases hlt:k<L
     rotate_left
     ·have hki: ¬(k:Int)<(L:Int):=by omega
      have hke2:k=L:=by omega
      rw [hke2] at g1 g2
      rw [hke2,List.drop_eq_nil_of_le (by rw [basesV_len];exact Nat.le_refl _),List.append_nil] at g4
      have HG1:=hid g1
      have HG2:=hid g2
      have HG3:=hid g3
      have HG4:=hid g4
      clear g1 g2 g3 g4
      go_wp2_with fail
      go_ret2
      refine ⟨.inr (.inr ⟨HIS.o,by rw [HPT.o];omega,some ⟨bo,0,none⟩,capo,dn,rfl,?_,HG1.o,?_⟩),by first | exact HBW.o _ (HC0.o _ HCH.o).2.2.2.1 | (rw [HN.o];exact HBW.o _ (HC0.o _ HCH.o).2.2.2.1)⟩
      ·have e1:strB (Mrk.rootM (leavesP H D S L ps))=ro:=by rw [← HVN.o,← HRO2.o,strB_nb]
       have e2:(sigParts b (nb seed) idx (batchR (Mrk.rootM (leavesP H D S L ps)) L)).map strB=ps2:=by rw [← HVN.o,← HRO2.o,← HPQ.o.1,map_strB]
       have e3:(sigPath b (nb seed) t idx).map strB=qs2:=by rw [← HPQ.o.2,map_strB]
       rw [HG2.o]
       unfold batchP
       rw [HLE.o]
       simp only [Int.toNat_natCast]
       rw [e1,e2,e3]
      ·refine HG4.o.rcsAll (fun x hx=> ?_)
       obtain ⟨f1,f2,f3,f4,f5,f6,_⟩:=HG3.o x hx
       have:=HLM.o
       have:=HLN2.o
       exact ⟨by omega,by rw [f3];omega,by rw [f4];omega,f6,by rw [f1,f3];exact HSS.o.1,by rw [f2,f4];exact HSS.o.2⟩
     have hki:(k:Int)<(L:Int):=by omega
     have HD1:=hid g1
     have HD2:=hid g2
     have HD3:=hid g3
     have HD4:=hid g4
     clear g1 g2 g3 g4 HDN
     have HKB:Hid (k<(basesV H D S L ps L).length):=hid (by rw [basesV_len];exact hlt)
     have HKL:Hid (k<(dn++(basesV H D S L ps L).drop k).length):=hid (by have:=HKB.o;rw [List.length_append,HD1.o,List.length_drop];omega)
     have HGE:Hid ((dn++(basesV H D S L ps L).drop k)[k]'HKL.o=baseV H D S L k (ps.getD k zeroPr)):=hid (by
      rw [List.getElem_append_right (by rw [HD1.o];exact Nat.le_refl _)]
      simp [basesV,HD1.o])
     have HS2:Hid (∀V:World,V.heap[A2]? =some (.cells #[.int .i64 (idx:Int),.slice b1 m1 d1,.slice b2 m2 d2] 45 (0,0))→V.cell? ⟨A2,0,none⟩=some (.int .i64 (idx:Int))∧V.cell? ⟨A2,1,none⟩=some (.slice b1 m1 d1)∧V.cell? ⟨A2,2,none⟩=some (.slice b2 m2 d2)):=hid (fun V h=>⟨cr h,cr h,cr h⟩)
     go_upto_region 20 with fail
     have HB0:Hid (Below wr.heap.size wr wr.drew):=hid (Below.refl _ _).drew
     obtain ⟨VD,hVD⟩:=ex_eq wr.drew
     rw [hVD] at HB0
     have HCD:Hid (Chg (fun q _=>q=bo) w12 VD):=hid (HCH.o.trans (Chg.of_below HB0.o))
     have HRD:=hid (HD4.o.later HB0.o)
     have HSD2:Hid (StrsAt VD b1 ps2∧StrsAt VD b2 qs2):=hid ⟨HSS.o.1.later HB0.o,HSS.o.2.later HB0.o⟩
     refine Kit.wp_region_gplan (fun V=>V.cell? ⟨A2,0,none⟩=some (.int .i64 (idx:Int))∧V.cell? ⟨A2,1,none⟩=some (.slice b1 m1 d1)∧V.cell? ⟨A2,2,none⟩=some (.slice b2 m2 d2)) [(true,0),(true,1),(true,2),(true,3),(true,4),(true,5),(true,6),(true,7),(false,8),(true,9),(true,10),(false,11)] (by kernel_rfl) (by kernel_rfl) (by kernel_rfl) (by kernel_rfl) (by rw [hVD];exact HS2.o _ (HC0.o _ HCD.o).2.1) ?_
     rw [hVD]
     clear hVD
     iterate 8 (refine Kit.ghd (h:= ?_))
     obtain ⟨hcD,xf⟩:=HRD.o.cells RcV.len k HKL.o
     rw [HGE.o] at hcD
     have x9:VD.cell? ⟨bo,k*14+9,none⟩=some (.string ByteArray.empty):=(hcD 9 (by decide)).trans rfl
     clear hcD
     refine Kit.gplan_op (by rfl) (by rfl) fun K' hK'=> ?_
     go_simp
     have h1:RowN RcV.cells 14 47 (VD.setCell ⟨bo,k*14+9,none⟩ (.string ro)) bo capo ((dn++(basesV H D S L ps L).drop k).set k (⟨{ baseR H D S L k (ps.getD k zeroPr) with root:=ro },none,0,none,0,none,0⟩:RcV)):=HRD.o.putMid RcV.len k HKL.o (⟨{ baseR H D S L k (ps.getD k zeroPr) with root:=ro },none,0,none,0,none,0⟩:RcV) 9 [.string ro] (by simp) (by rw [HGE.o];rfl)
     have hoff: ∀j,j<[Value.string ro].length→ ∀s:ByteArray,VD.cell? ⟨bo,k*14+9+j,none⟩=some (.string s)→s.size≠32:=by
      intro j hj s hs
      have hj0:j=0:=by simp at hj;omega
      subst hj0
      rw [Nat.add_zero,x9] at hs
      injection hs with hs
      injection hs with hs
      rw [← hs];decide
     have h2:StrsAt (VD.setCell ⟨bo,k*14+9,none⟩ (.string ro)) b1 ps2:=StrsAt.putL_off HSD2.o.1 HZ32.o.1 bo (k*14+9) [.string ro] hoff
     have h3:StrsAt (VD.setCell ⟨bo,k*14+9,none⟩ (.string ro)) b2 qs2:=StrsAt.putL_off HSD2.o.2 HZ32.o.2 bo (k*14+9) [.string ro] hoff
     have h4:Chg (fun q _=>q=bo) VD (VD.setCell ⟨bo,k*14+9,none⟩ (.string ro)):=Chg.setCell1 _ _ _ _ rfl
     obtain ⟨X1,hX1⟩:=ex_eq (VD.setCell ⟨bo,k*14+9,none⟩ (.string ro))
     rw [hX1] at h1 h2 h3 h4 ⊢
     have HR1:=hid h1
     have HS1:=hid (And.intro h2 h3)
     have HC1:Hid (Chg (fun q _=>q=bo) w12 X1):=hid (HCD.o.trans h4)
     have HV1b:Hid (Chg (fun q _=>q=bo) VD X1):=hid h4
     clear h1 h2 h3 h4 hoff hX1 xf x9
     refine hK' _ _ (HS2.o _ (HC0.o _ HC1.o).2.1) ?_
     clear hK' K'
     iterate 2 (refine Kit.ghd (h:= ?_))
     have HK1:Hid (k<((dn++(basesV H D S L ps L).drop k).set k (⟨{ baseR H D S L k (ps.getD k zeroPr) with root:=ro },none,0,none,0,none,0⟩:RcV)).length):=hid (by rw [List.length_set];exact HKL.o)
     have HG1e:Hid (((dn++(basesV H D S L ps L).drop k).set k (⟨{ baseR H D S L k (ps.getD k zeroPr) with root:=ro },none,0,none,0,none,0⟩:RcV))[k]'HK1.o=(⟨{ baseR H D S L k (ps.getD k zeroPr) with root:=ro },none,0,none,0,none,0⟩:RcV)):=hid (List.getElem_set_self _)
     obtain ⟨hcD,xf⟩:=HR1.o.cells RcV.len k HK1.o
     rw [HG1e.o] at hcD
     have x11:X1.cell? ⟨bo,k*14+11,none⟩=some (.int .i64 0):=(hcD 11 (by decide)).trans rfl
     have x12:X1.cell? ⟨bo,k*14+12,none⟩=some (.slice none 0 0):=(hcD 12 (by decide)).trans rfl
     have x13:X1.cell? ⟨bo,k*14+13,none⟩=some (.slice none 0 0):=(hcD 13 (by decide)).trans rfl
     clear hcD
     refine Kit.gplan_op (by rfl) (by rfl) fun K' hK'=> ?_
     go_simp
     have h1:RowN RcV.cells 14 47 (((X1.setCell ⟨bo,k*14+11,none⟩ (.int .i64 (idx:Int))).setCell ⟨bo,k*14+12,none⟩ (.slice b1 m1 d1)).setCell ⟨bo,k*14+13,none⟩ (.slice b2 m2 d2)) bo capo ((dn++(basesV H D S L ps L).drop k).set k (⟨{ baseR H D S L k (ps.getD k zeroPr) with root:=ro,si:=(idx:Int),parts:=ps2,sp:=qs2 },none,0,b1,d1,b2,d2⟩:RcV)):=by
      have h:=HR1.o.putMid RcV.len k HK1.o (⟨{ baseR H D S L k (ps.getD k zeroPr) with root:=ro,si:=(idx:Int),parts:=ps2,sp:=qs2 },none,0,b1,d1,b2,d2⟩:RcV) 11 [.int .i64 (idx:Int),.slice b1 m1 d1,.slice b2 m2 d2] (by simp) (by
       rw [HG1e.o]
       have e:=HLM.o
       obtain ⟨e2,e3⟩:=e
       subst e2 e3
       rfl)
      rw [List.set_set] at h
      exact h
     have hoff: ∀j,j<([.int .i64 (idx:Int),.slice b1 m1 d1,.slice b2 m2 d2]:List Value).length→ ∀s:ByteArray,X1.cell? ⟨bo,k*14+11+j,none⟩=some (.string s)→s.size≠32:=by
      intro j hj s hs
      have hj3:j<3:=hj
      match j,hj3 with
      | 0,_=>rw [Nat.add_zero,x11] at hs;cases hs
      | 1,_=>rw [show k*14+11+1=k*14+12 from rfl,x12] at hs;cases hs
      | 2,_=>rw [show k*14+11+2=k*14+13 from rfl,x13] at hs;cases hs
     have h2:StrsAt (((X1.setCell ⟨bo,k*14+11,none⟩ (.int .i64 (idx:Int))).setCell ⟨bo,k*14+12,none⟩ (.slice b1 m1 d1)).setCell ⟨bo,k*14+13,none⟩ (.slice b2 m2 d2)) b1 ps2:=StrsAt.putL_off HS1.o.1 HZ32.o.1 bo (k*14+11) [.int .i64 (idx:Int),.slice b1 m1 d1,.slice b2 m2 d2] hoff
     have h3:StrsAt (((X1.setCell ⟨bo,k*14+11,none⟩ (.int .i64 (idx:Int))).setCell ⟨bo,k*14+12,none⟩ (.slice b1 m1 d1)).setCell ⟨bo,k*14+13,none⟩ (.slice b2 m2 d2)) b2 qs2:=StrsAt.putL_off HS1.o.2 HZ32.o.2 bo (k*14+11) [.int .i64 (idx:Int),.slice b1 m1 d1,.slice b2 m2 d2] hoff
     have h4:Chg (fun q _=>q=bo) X1 (((X1.setCell ⟨bo,k*14+11,none⟩ (.int .i64 (idx:Int))).setCell ⟨bo,k*14+12,none⟩ (.slice b1 m1 d1)).setCell ⟨bo,k*14+13,none⟩ (.slice b2 m2 d2)):=putL_chg (fun _=>rfl) [.int .i64 (idx:Int),.slice b1 m1 d1,.slice b2 m2 d2] (k*14+11) X1 (Chg.refl _ _)
     obtain ⟨X2,hX2⟩:=ex_eq (((X1.setCell ⟨bo,k*14+11,none⟩ (.int .i64 (idx:Int))).setCell ⟨bo,k*14+12,none⟩ (.slice b1 m1 d1)).setCell ⟨bo,k*14+13,none⟩ (.slice b2 m2 d2))
     rw [hX2] at h1 h2 h3 h4 ⊢
     have HR2:=hid h1
     have HS2b:=hid (And.intro h2 h3)
     have HC2b:Hid (Chg (fun q _=>q=bo) w12 X2):=hid (HC1.o.trans h4)
     have HV2b:Hid (Chg (fun q _=>q=bo) wr X2):=hid ((Chg.of_below HB0.o).trans (HV1b.o.trans h4))
     clear h1 h2 h3 h4 hoff hX2 xf x11 x12 x13
     refine hK' _ _ (HS2.o _ (HC0.o _ HC2b.o).2.1) ?_
     clear hK' K'
     refine Kit.gdn (h:=?_)
     clear HR1 HS1 HC1 HV1b HCD HRD HSD2 HG1e HK1 HB0 HD4
     have HPA:=hid (refPathG_ok L hL1.1 hL1.2 a2 cp2 vs HV1.o HC2.o HV32.o k hlt X2 (HC0.o _ HC2b.o).2.2.1 (HC0.o _ HC2b.o).2.2.2.2)
     have HK2:Hid (k<((dn++(basesV H D S L ps L).drop k).set k (⟨{ baseR H D S L k (ps.getD k zeroPr) with root:=ro,si:=(idx:Int),parts:=ps2,sp:=qs2 },none,0,b1,d1,b2,d2⟩:RcV)).length):=hid (by rw [List.length_set];exact HKL.o)
     have HG2e:Hid (((dn++(basesV H D S L ps L).drop k).set k (⟨{ baseR H D S L k (ps.getD k zeroPr) with root:=ro,si:=(idx:Int),parts:=ps2,sp:=qs2 },none,0,b1,d1,b2,d2⟩:RcV))[k]'HK2.o=(⟨{ baseR H D S L k (ps.getD k zeroPr) with root:=ro,si:=(idx:Int),parts:=ps2,sp:=qs2 },none,0,b1,d1,b2,d2⟩:RcV)):=hid (List.getElem_set_self _)
     go_wp2_with (first
      | (go_at_call 100
         (with_reducible refine HPA.o.mono ?_)
         rintro e x3 ⟨xv,mm,vp,rfl,hmm,hvp,hop,hzp,hbp⟩
         obtain ⟨a',cap',rfl,hlp,hcp,hSp,_,hblk⟩:=strs_of_own hop
         have HMM:=hid hmm
         have HVP:=hid hvp
         have HSP:=hid hSp
         have HBK:Hid (∀ad,a'=some ad→ad.block≠bo):=hid (fun ad e=>by
          have h1:=(hblk ad e).1
          have h2:=HR2.o.lt
          omega)
         have HB3:=hid hbp
         have HR3:=hid (HR2.o.later hbp)
         clear hmm hvp hop hzp hbp hlp hcp hSp hblk
         obtain ⟨hcD,xf⟩:=HR3.o.cells RcV.len k HK2.o
         rw [HG2e.o] at hcD
         have x10:x3.cell? ⟨bo,k*14+10,none⟩=some (.slice none 0 0):=(hcD 10 (by decide)).trans rfl
         clear hcD))
     have HPE:Hid (pthR H D S L ps k=vp):=hid (by unfold pthR;rw [← HVN.o,← HVP.o,map_strB])
     have HR4:Hid (RowN RcV.cells 14 47 (x3.setCell ⟨bo,k*14+10,none⟩ (.slice a' mm cap')) bo capo ((dn++[(⟨(outR H D S L ps ro (idx:Int) ps2 qs2 (pthR H D S L ps)) k,a',cap',b1,d1,b2,d2⟩:RcV)])++(basesV H D S L ps L).drop (k+1))):=hid (by
      have h:RowN RcV.cells 14 47 (x3.setCell ⟨bo,k*14+10,none⟩ (.slice a' mm cap')) bo capo (((dn++(basesV H D S L ps L).drop k).set k (⟨{ baseR H D S L k (ps.getD k zeroPr) with root:=ro,si:=(idx:Int),parts:=ps2,sp:=qs2 },none,0,b1,d1,b2,d2⟩:RcV)).set k (⟨(outR H D S L ps ro (idx:Int) ps2 qs2 (pthR H D S L ps)) k,a',cap',b1,d1,b2,d2⟩:RcV)):=HR3.o.putMid RcV.len k HK2.o (⟨(outR H D S L ps ro (idx:Int) ps2 qs2 (pthR H D S L ps)) k,a',cap',b1,d1,b2,d2⟩:RcV) 10 [.slice a' mm cap'] (by simp) (by
       rw [HG2e.o]
       have e1:(pthR H D S L ps k).length=mm:=by rw [HPE.o];exact HMM.o.1.symm
       rw [← e1]
       rfl)
      rw [List.set_set] at h
      have e:(dn++(basesV H D S L ps L).drop k).set k (⟨(outR H D S L ps ro (idx:Int) ps2 qs2 (pthR H D S L ps)) k,a',cap',b1,d1,b2,d2⟩:RcV)=(dn++[(⟨(outR H D S L ps ro (idx:Int) ps2 qs2 (pthR H D S L ps)) k,a',cap',b1,d1,b2,d2⟩:RcV)])++(basesV H D S L ps L).drop (k+1):=by
       rw [List.set_append_right _ _ (by rw [HD1.o];exact Nat.le_refl _),HD1.o,Nat.sub_self,List.drop_eq_getElem_cons HKB.o,List.set_cons_zero,List.append_assoc]
       rfl
      rw [e] at h
      exact h)
     have hoff: ∀j,j<[Value.slice a' mm cap'].length→ ∀s:ByteArray,x3.cell? ⟨bo,k*14+10+j,none⟩=some (.string s)→s.size≠32:=by
      intro j hj s hs
      have hj0:j=0:=by simp at hj;omega
      subst hj0
      rw [Nat.add_zero,x10] at hs
      cases hs
     have HS4:Hid (StrsAt (x3.setCell ⟨bo,k*14+10,none⟩ (.slice a' mm cap')) b1 ps2∧StrsAt (x3.setCell ⟨bo,k*14+10,none⟩ (.slice a' mm cap')) b2 qs2):=hid ⟨StrsAt.putL_off (HS2b.o.1.later HB3.o) HZ32.o.1 bo (k*14+10) [.slice a' mm cap'] hoff,StrsAt.putL_off (HS2b.o.2.later HB3.o) HZ32.o.2 bo (k*14+10) [.slice a' mm cap'] hoff⟩
     have HC4a:Hid (Chg (fun q _=>q=bo) x3 (x3.setCell ⟨bo,k*14+10,none⟩ (.slice a' mm cap'))):=hid (Chg.setCell1 _ _ _ _ rfl)
     have HC4:Hid (Chg (fun q _=>q=bo) w12 (x3.setCell ⟨bo,k*14+10,none⟩ (.slice a' mm cap'))):=hid ((HC2b.o.trans (Chg.of_below HB3.o)).trans HC4a.o)
     have HV4:Hid (Chg (fun q _=>q=bo) wr (x3.setCell ⟨bo,k*14+10,none⟩ (.slice a' mm cap'))):=hid ((HV2b.o.trans (Chg.of_below HB3.o)).trans HC4a.o)
     clear hoff xf x10
     go_roundw
     case rel=>
      refine ⟨k+1,hlt,by go_num,hid ⟨dn++[(⟨(outR H D S L ps ro (idx:Int) ps2 qs2 (pthR H D S L ps)) k,a',cap',b1,d1,b2,d2⟩:RcV)],by rw [List.length_append,HD1.o];rfl,?_,fun x hx=> ?_,HR4.o⟩,HS4,HC4⟩
      ·rw [List.map_append,HD2.o,List.range_succ,List.map_append]
       rfl
      ·rcases List.mem_append.1 hx with hx | hx
       ·obtain ⟨f1,f2,f3,f4,f5,f6,f7⟩:=HD3.o x hx
        exact ⟨f1,f2,f3,f4,f5,f6.keep HV4.o (fun ad e _ i hm=>f7 ad e hm),f7⟩
       ·rw [List.mem_singleton.1 hx]
        refine ⟨rfl,rfl,rfl,rfl,?_,?_,HBK.o⟩
        ·show (pthR H D S L ps k).length≤256
         rw [HPE.o]
         have:=HMM.o
         omega
        ·show StrsAt _ a' (pthR H D S L ps k)
         rw [HPE.o]
         exact HSP.o.keep HC4a.o (fun ad e _ i hm=>HBK.o ad e hm)
     case measure=>simp [intOf];omega
  have hki:(k:Int)<(L:Int):=by omega
  obtain ⟨bp,op,rfl,hp0,hp1,hp2,hp3⟩:=(HPR.o.later (HBW.o _ HRB.o)).one k (by rw [HLE.o];exact hlt)
  have HGP:Hid (ps.getD k zeroPr=ps[k]'(by rw [HLE.o];exact hlt)):=hid (by rw [lD,lE];rfl)
  have HGK:Hid ((ps[k]'(by rw [HLE.o];exact hlt)).good=false→allGood ps=false):=hid (allGood_bad k _)
  have HGN:Hid ((ps[k]'(by rw [HLE.o];exact hlt)).good=true→ ∀j (h:j<ps.length),j<k+1→ps[j].good=true):=hid (fun hg j h hj=>by
   by_cases e:j=k
   ·subst e;exact hg
   ·exact HGD.o j h (by omega))
  obtain ⟨p,hp⟩:=ex_eq (ps[k]'(by rw [HLE.o];exact hlt))
  rw [hp] at hp0 hp1 hp2 hp3 HGP HGK HGN
  clear hp
  obtain ⟨v,s,i,z⟩:=p
  have HGO:=hid (fun w=>refGood_any v s i z w)
  obtain ⟨GD,hGD⟩:=ex_eq (goodP v s i z)
  rw [hGD] at HGO
  have HGE:Hid ((⟨v,s,i,z⟩:Pr).good=GD):=hid hGD
  have HPC:Hid (∀V,Below wr.heap.size wr V→V.cell? ⟨bp,op+k*4,none⟩=some (.int .i64 v)∧V.cell? ⟨bp,op+k*4+1,none⟩=some (.string s)∧V.cell? ⟨bp,op+k*4+2,none⟩=some (.int .i64 i)∧V.cell? ⟨bp,op+k*4+3,none⟩=some (.int .i64 z)):=hid (fun V h=>by
   have f: ∀{ad:Addr} {u:Value},wr.cell? ad=some u→V.cell? ad=some u:=fun hu=>(h.cell (World.block_lt_of_cell? _ _ hu)).trans hu
   exact ⟨f hp0,f hp1,f hp2,f hp3⟩)
  clear hGD
  go_wp2_with fail
  with_reducible refine (HGO.o _).mono ?_
  rintro e y1 ⟨rfl,hb1⟩
  have HY:Hid (Below (N+1) W y1):=hid (HST.o _ _ HRB.o hb1)
  have HY':=hid hb1
  clear hb1 hp0 hp1 hp2 hp3 HGO
  cases GD
  ·have HIS:Hid (issOk (H:Int) (D:Int) (S:Int) L ps=false):=hid (by
      cases hc:issOk (H:Int) (D:Int) (S:Int) L ps with
      | false=>rfl
      | true=>have h0:=(issOk_iff hc).2.2.2.2.2;rw [HGK.o HGE.o] at h0;cases h0)
   go_wp2_with fail
   go_ret2
   exact ⟨.inl ⟨HIS.o,rfl⟩,HBW.o _ HY.o⟩
  obtain ⟨E,hE⟩:=ex_eq (S+k)
  have HE:=hid hE
  have hws:IntKind.i64.wrap ((S:Int)+(k:Int))=(E:Int):=by rw [IntKind.wrap_i64,← hE];have:=HIN.o;omega
  clear hE
  go_upto_region 10 with fail
  have HDW:Hid (Below (N+1) W y1.drew):=hid HY.o.drew
  have HDR:Hid (Below wr.heap.size wr y1.drew):=hid (HY'.o).drew
  obtain ⟨VD,hVD⟩:=ex_eq y1.drew
  rw [hVD] at HDW HDR
  refine Kit.wp_region_gplan (fun V=>V.cell? ⟨bp,op+k*4,none⟩=some (.int .i64 v)∧V.cell? ⟨bp,op+k*4+1,none⟩=some (.string s)∧V.cell? ⟨bp,op+k*4+2,none⟩=some (.int .i64 i)∧V.cell? ⟨bp,op+k*4+3,none⟩=some (.int .i64 z)) [(true,0),(true,1),(true,2),(true,3),(true,4),(true,5),(true,6),(true,7),(true,8),(true,9),(true,10),(true,11),(true,12),(true,13),(true,14),(true,15),(true,16),(true,17),(true,18),(true,19),(true,20),(true,21),(true,22),(true,23),(false,24),(false,25)] (by kernel_rfl) (by kernel_rfl) (by kernel_rfl) (by kernel_rfl) (by rw [hVD];exact HPC.o _ HDR.o) ?_
  rw [hVD]
  clear hVD
  iterate 24 (refine Kit.ghd (h:= ?_))
  refine Kit.gplan_op (by rfl) (by rfl) fun K' hK'=> ?_
  go_simp
  have hra:=heap_alloc_new VD (.cells #[.int .i64 0,.int .i64 0,.string { data:= #[] },.int .i64 0,.int .i64 0,.int .i64 0,.int .i64 0,.int .i64 0,.int .i64 0,.string { data:= #[] },.slice none 0 0,.int .i64 0,.slice none 0 0,.slice none 0 0] 47)
  have hba:Below VD.heap.size VD (VD.alloc (.cells #[.int .i64 0,.int .i64 0,.string { data:= #[] },.int .i64 0,.int .i64 0,.int .i64 0,.int .i64 0,.int .i64 0,.int .i64 0,.string { data:= #[] },.slice none 0 0,.int .i64 0,.slice none 0 0,.slice none 0 0] 47)):=(Below.refl _ _).alloc (Nat.le_refl _) _
  obtain ⟨w11,hw11⟩:=ex_eq (VD.alloc (.cells #[.int .i64 0,.int .i64 0,.string { data:= #[] },.int .i64 0,.int .i64 0,.int .i64 0,.int .i64 0,.int .i64 0,.int .i64 0,.string { data:= #[] },.slice none 0 0,.int .i64 0,.slice none 0 0,.slice none 0 0] 47))
  rw [hw11] at hra hba ⊢
  have HR11:Hid (Below wr.heap.size wr w11):=hid (HDR.o.trans (hba.mono HDR.o.size))
  have HW11:Hid (Below (N+1) W w11):=hid (HST.o _ _ HDW.o hba)
  obtain ⟨A2,hA2⟩:=ex_eq VD.heap.size
  have HA2:Hid (wr.heap.size≤A2∧N+1≤A2):=hid (by rw [← hA2];exact ⟨HDR.o.size,HSZ.o _ HDW.o⟩)
  rw [hA2] at hra ⊢
  have HRA:=hid hra
  clear hra hba hw11 hA2
  refine hK' _ _ (HPC.o _ HR11.o) ?_
  clear hK' K'
  obtain ⟨z0,z1,z2,z3,z4,z5,z6,z7,z8,z9,z10,z11,z12,z13⟩:=row14 HRA.o
  have zf: ∀j,w11.frozen? ⟨A2,j,none⟩=false:=fun j=>frozen_of_row _ _ _ _ _ HRA.o
  refine Kit.gplan_op (by rfl) (by rfl) fun K' hK'=> ?_
  go_simp
  have hr:((((((((((((((w11.setCell ⟨A2,0,none⟩ (.int .i64 (H:Int))).setCell ⟨A2,1,none⟩ (.int .i64 v)).setCell ⟨A2,2,none⟩ (.string s)).setCell ⟨A2,3,none⟩ (.int .i64 i)).setCell ⟨A2,4,none⟩ (.int .i64 z)).setCell ⟨A2,5,none⟩ (.int .i64 (D:Int))).setCell ⟨A2,6,none⟩ (.int .i64 (E:Int))).setCell ⟨A2,7,none⟩ (.int .i64 (L:Int))).setCell ⟨A2,8,none⟩ (.int .i64 (k:Int))).setCell ⟨A2,9,none⟩ (.string { data:= #[] })).setCell ⟨A2,10,none⟩ (.slice none 0 0)).setCell ⟨A2,11,none⟩ (.int .i64 0)).setCell ⟨A2,12,none⟩ (.slice none 0 0)).setCell ⟨A2,13,none⟩ (.slice none 0 0)).heap[A2]? =some (.cells #[.int .i64 (H:Int),.int .i64 v,.string s,.int .i64 i,.int .i64 z,.int .i64 (D:Int),.int .i64 (E:Int),.int .i64 (L:Int),.int .i64 (k:Int),.string { data:= #[] },.slice none 0 0,.int .i64 0,.slice none 0 0,.slice none 0 0] 47 (0,0)):=putL_full (cur:=[.int .i64 0,.int .i64 0,.string { data:= #[] },.int .i64 0,.int .i64 0,.int .i64 0,.int .i64 0,.int .i64 0,.int .i64 0,.string { data:= #[] },.slice none 0 0,.int .i64 0,.slice none 0 0,.slice none 0 0]) (vs:=[.int .i64 (H:Int),.int .i64 v,.string s,.int .i64 i,.int .i64 z,.int .i64 (D:Int),.int .i64 (E:Int),.int .i64 (L:Int),.int .i64 (k:Int),.string { data:= #[] },.slice none 0 0,.int .i64 0,.slice none 0 0,.slice none 0 0]) HRA.o rfl
  have hbw:Below wr.heap.size wr ((((((((((((((w11.setCell ⟨A2,0,none⟩ (.int .i64 (H:Int))).setCell ⟨A2,1,none⟩ (.int .i64 v)).setCell ⟨A2,2,none⟩ (.string s)).setCell ⟨A2,3,none⟩ (.int .i64 i)).setCell ⟨A2,4,none⟩ (.int .i64 z)).setCell ⟨A2,5,none⟩ (.int .i64 (D:Int))).setCell ⟨A2,6,none⟩ (.int .i64 (E:Int))).setCell ⟨A2,7,none⟩ (.int .i64 (L:Int))).setCell ⟨A2,8,none⟩ (.int .i64 (k:Int))).setCell ⟨A2,9,none⟩ (.string { data:= #[] })).setCell ⟨A2,10,none⟩ (.slice none 0 0)).setCell ⟨A2,11,none⟩ (.int .i64 0)).setCell ⟨A2,12,none⟩ (.slice none 0 0)).setCell ⟨A2,13,none⟩ (.slice none 0 0)):=putL_below HA2.o.1 [.int .i64 (H:Int),.int .i64 v,.string s,.int .i64 i,.int .i64 z,.int .i64 (D:Int),.int .i64 (E:Int),.int .i64 (L:Int),.int .i64 (k:Int),.string { data:= #[] },.slice none 0 0,.int .i64 0,.slice none 0 0,.slice none 0 0] 0 w11 HR11.o
  have hbn:Below (N+1) W ((((((((((((((w11.setCell ⟨A2,0,none⟩ (.int .i64 (H:Int))).setCell ⟨A2,1,none⟩ (.int .i64 v)).setCell ⟨A2,2,none⟩ (.string s)).setCell ⟨A2,3,none⟩ (.int .i64 i)).setCell ⟨A2,4,none⟩ (.int .i64 z)).setCell ⟨A2,5,none⟩ (.int .i64 (D:Int))).setCell ⟨A2,6,none⟩ (.int .i64 (E:Int))).setCell ⟨A2,7,none⟩ (.int .i64 (L:Int))).setCell ⟨A2,8,none⟩ (.int .i64 (k:Int))).setCell ⟨A2,9,none⟩ (.string { data:= #[] })).setCell ⟨A2,10,none⟩ (.slice none 0 0)).setCell ⟨A2,11,none⟩ (.int .i64 0)).setCell ⟨A2,12,none⟩ (.slice none 0 0)).setCell ⟨A2,13,none⟩ (.slice none 0 0)):=putL_below HA2.o.2 [.int .i64 (H:Int),.int .i64 v,.string s,.int .i64 i,.int .i64 z,.int .i64 (D:Int),.int .i64 (E:Int),.int .i64 (L:Int),.int .i64 (k:Int),.string { data:= #[] },.slice none 0 0,.int .i64 0,.slice none 0 0,.slice none 0 0] 0 w11 HW11.o
  obtain ⟨w12,hw12⟩:=ex_eq ((((((((((((((w11.setCell ⟨A2,0,none⟩ (.int .i64 (H:Int))).setCell ⟨A2,1,none⟩ (.int .i64 v)).setCell ⟨A2,2,none⟩ (.string s)).setCell ⟨A2,3,none⟩ (.int .i64 i)).setCell ⟨A2,4,none⟩ (.int .i64 z)).setCell ⟨A2,5,none⟩ (.int .i64 (D:Int))).setCell ⟨A2,6,none⟩ (.int .i64 (E:Int))).setCell ⟨A2,7,none⟩ (.int .i64 (L:Int))).setCell ⟨A2,8,none⟩ (.int .i64 (k:Int))).setCell ⟨A2,9,none⟩ (.string { data:= #[] })).setCell ⟨A2,10,none⟩ (.slice none 0 0)).setCell ⟨A2,11,none⟩ (.int .i64 0)).setCell ⟨A2,12,none⟩ (.slice none 0 0)).setCell ⟨A2,13,none⟩ (.slice none 0 0))
  rw [hw12] at hr hbw hbn ⊢
  have HG12:=hid hr
  have HR12:=hid hbw
  have HW12:=hid hbn
  clear hr hbw hbn hw12 z0 z1 z2 z3 z4 z5 z6 z7 z8 z9 z10 z11 z12 z13 zf HRA HR11 HW11 HDW HDR
  refine hK' _ _ (HPC.o _ HR12.o) ?_
  clear hK' K'
  refine Kit.gdn (h:=?_)
  clear HPC
  obtain ⟨q0,q1,q2,q3,q4,q5,q6,q7,q8,q9,q10,q11,q12,q13⟩:=row14 HG12.o
  have HSRC:Hid (∀(q:Nat) (V:World),V.heap[q]? =some (.cells #[.int .i64 (H:Int),.int .i64 v,.string s,.int .i64 i,.int .i64 z,.int .i64 (D:Int),.int .i64 (E:Int),.int .i64 (L:Int),.int .i64 (k:Int),.string { data:= #[] },.slice none 0 0,.int .i64 0,.slice none 0 0,.slice none 0 0] 47 (0,0))→ ∀j u,(baseV H D S L k ⟨v,s,i,z⟩).cells[j]? =some u→V.cell? ((⟨q,0,none⟩:Addr).add j)=some u):=hid (fun q V hq j u hu=>by
   rw [add_none,Nat.zero_add]
   exact (cell_of_row _ _ _ _ _ _ hq).trans (by rw [← hu,← HE.o];simp [RcV.cells,baseV,baseR];rfl))
  have HAL:Hid (Below w12.heap.size w12 (w12.alloc (.cells #[.int .i64 (H:Int),.int .i64 v,.string s,.int .i64 i,.int .i64 z,.int .i64 (D:Int),.int .i64 (E:Int),.int .i64 (L:Int),.int .i64 (k:Int),.string { data:= #[] },.slice none 0 0,.int .i64 0,.slice none 0 0,.slice none 0 0] 47))):=hid ((Below.refl _ _).alloc (Nat.le_refl _) _)
  have HO12:Hid ((w12.alloc (.cells #[.int .i64 (H:Int),.int .i64 v,.string s,.int .i64 i,.int .i64 z,.int .i64 (D:Int),.int .i64 (E:Int),.int .i64 (L:Int),.int .i64 (k:Int),.string { data:= #[] },.slice none 0 0,.int .i64 0,.slice none 0 0,.slice none 0 0] 47)).ownsRow (N+1) 47 14 u16 k (rcv (basesV H D S L ps k))):=hid (own_later (own_later HRO.o HR12.o) HAL.o)
  obtain ⟨vs,hv1,hv2,hv3⟩:=HRL.o
  have HV1:=hid hv1
  have HV2:=hid hv2
  have HL12:Hid ((w12.alloc (.cells #[.int .i64 (H:Int),.int .i64 v,.string s,.int .i64 i,.int .i64 z,.int .i64 (D:Int),.int .i64 (E:Int),.int .i64 (L:Int),.int .i64 (k:Int),.string { data:= #[] },.slice none 0 0,.int .i64 0,.slice none 0 0,.slice none 0 0] 47)).ownsRow (N+1) 9 1 u17 k (strV vs)):=hid (own_later (own_later hv3 HR12.o) HAL.o)
  clear hv1 hv2 hv3
  go_upto_region 12 with (first
   | (at_builtin
      refine app_rc rfl _ _ rfl (N+1) u16 k (basesV H D S L ps k) (by rfl) HO12.o (by have:=HSZ.o _ HW12.o;have:=HAL.o.size;omega) (by omega) (baseV H D S L k ⟨v,s,i,z⟩) ⟨w12.heap.size,0,none⟩ 1 (by rfl) (HSRC.o _ _ (heap_alloc_new _ _)) ?_
      intro bl cap w13 h1 h2 h3
      have HO13:Hid (w13.ownsRow (N+1) 47 14 (.slice (some ⟨bl,0,none⟩) (k+1) cap) (k+1) (rcv (basesV H D S L ps (k+1)))):=hid (by rw [basesV_succ,HGP.o];exact h1)
      have HL13:Hid (w13.ownsRow (N+1) 9 1 u17 k (strV vs)):=hid (own_grown HL12.o HO12.o (by decide) h2)
      have HB13:Hid (Below (N+1) W w13):=hid ((HST.o _ _ HW12.o HAL.o).trans (below_grown HO12.o h2 (Nat.le_refl _) (by have:=HSZ.o _ HW12.o;have:=HAL.o.size;omega)))
      have HG13:Hid (w13.heap[A2]? =some (.cells #[.int .i64 (H:Int),.int .i64 v,.string s,.int .i64 i,.int .i64 z,.int .i64 (D:Int),.int .i64 (E:Int),.int .i64 (L:Int),.int .i64 (k:Int),.string { data:= #[] },.slice none 0 0,.int .i64 0,.slice none 0 0,.slice none 0 0] 47 (0,0))):=hid (((Chg.of_grown (M:=fun q _=>(u16:Value).ownBlock=some q) h2 (fun k i e=>e)).other A2 (by have:=(gS HG12.o).1;have:=HAL.o.size;omega) (fun i e=>by have:=own_lt HRO.o e;have:=HA2.o;omega)).trans ((HAL.o.block A2 (gS HG12.o).1).trans HG12.o))
      clear h1 h2 h3 q0 q1 q2 q3 q4 q5 q6 q7 q8 q9 q10 q11 q12 q13))
  obtain ⟨q0,q1,q2,q3,q4,q5,q6,q7,q8,q9,q10,q11,q12,q13⟩:=row14 HG13.o
  have HLS:Hid (SgV ⟨(H:Int),v,s,i,z,(D:Int),(E:Int),(L:Int),(k:Int),{ data:= #[] },[],0,[],[]⟩):=hid (by
   have h:=sg_base (hol:=H) (day:=D) (ser:=S) (L:=L) (k:=k) (p:=⟨v,s,i,z⟩) (by have:=HIN.o;omega) (by have:=HIN.o;omega) (by have:=HIN.o;omega) HGE.o
   unfold baseR at h
   rw [HE.o] at h
   exact h)
  have HTE:Hid (leafR (⟨(H:Int),v,s,i,z,(D:Int),(E:Int),(L:Int),(k:Int),{ data:= #[] },[],0,[],[]⟩:Rc)=leafR (baseR H D S L k ⟨v,s,i,z⟩)):=hid (by unfold baseR;rw [HE.o];rfl)
  have HLC:=hid (refLeafR_ok (H:Int) v s i z (D:Int) (E:Int) (L:Int) (k:Int) { data:= #[] } none 0 0 0 none 0 0 none 0 0 [] [] [] HLS.o _ HTE.o w13)
  go_wp2_with (first
   | (go_at_call 30
      (with_reducible refine HLC.o.mono ?_)
      rintro e w14 ⟨u,rfl,hu,hz,hb⟩
      have HU:=hid hu
      have HZ:=hid hz
      have HB14:Hid (Below (N+1) W w14):=hid (HST.o _ _ HB13.o hb)
      have HAL2:Hid (Below w14.heap.size w14 (w14.alloc (.cells #[.string u] 9))):=hid ((Below.refl _ _).alloc (Nat.le_refl _) _)
      have HO14:Hid ((w14.alloc (.cells #[.string u] 9)).ownsRow (N+1) 47 14 (.slice (some ⟨bl,0,none⟩) (k+1) cap) (k+1) (rcv (basesV H D S L ps (k+1)))):=hid (own_later (own_later HO13.o hb) HAL2.o)
      have HL14:Hid (w14.ownsRow (N+1) 9 1 u17 k (strV vs)):=hid (own_later HL13.o hb)
      clear hu hz hb q0 q1 q2 q3 q4 q5 q6 q7 q8 q9 q10 q11 q12 q13)
   | (at_builtin
      refine app_strG rfl _ _ rfl (N+1) u17 k vs (by rfl) HL14.o (HSZ.o _ HB14.o) (by omega) u 1 (by rfl) ?_
      intro x17 w15 h1 h2
      have HL15:=hid h1
      have HO15:=hid (own_grown HO14.o (own_later HL14.o HAL2.o) (by decide) h2)
      have HB15:Hid (Below (N+1) W w15):=hid ((HST.o _ _ HB14.o HAL2.o).trans (below_grown (own_later HL14.o HAL2.o) h2 (Nat.le_refl _) (by have:=HSZ.o _ HB14.o;have:=HAL2.o.size;omega)))
      clear h1 h2))
  go_roundw
  case rel=>
   refine ⟨k+1,hlt,by go_num,hid (HGN.o HGE.o),HO15,hid ⟨vs++[u],by rw [List.length_append,HV1.o];rfl,fun i' hi=> ?_,HL15.o⟩,HB15⟩
   by_cases e1:i'<vs.length
   ·rw [List.getElem_append_left e1]
    exact HV2.o i' e1
   ·have e2:i'=k:=by rw [List.length_append,HV1.o] at hi;rw [HV1.o] at e1;simp at hi;omega
    subst e2
    rw [List.getElem_append_right (by rw [HV1.o];exact Nat.le_refl _),HGP.o]
    simp only [HV1.o,Nat.sub_self,List.getElem_cons_zero]
    exact ⟨HU.o,HZ.o⟩
  case measure=>simp [intOf];omega
end Go.Proofs.YtndlihclgdkpaaaGreatDoor
