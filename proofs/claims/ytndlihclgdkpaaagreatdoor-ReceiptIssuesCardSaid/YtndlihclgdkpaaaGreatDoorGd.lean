/- Texts Rfn, Rfp, Rfr, Rfb, Rfs, Rft, Rfc, Rfe, Rff, Smd, Rfg, Rfh, merged. -/
import Derived.Great.BuildSlice
import Derived.ArgAppend
import Derived.Test.YtndlihclgdkpaaaGreatDoorGc
/- The document's encoding of a number. -/
set_option linter.unusedVariables false
set_option linter.unusedSimpArgs false
open Go.Lib (hid)
set_option maxHeartbeats 4000000
set_option maxRecDepth 100000
namespace Go.Proofs.YtndlihclgdkpaaaGreatDoor
open Go.RowKit
open Kit (Chg)
open Sha (v)
open Go.Proofs.YtndlihclgdkpaaaGreatDoor.One
theorem refNumber_any (n:Nat) (hn:n<18446744073709551616) (w:World):
    Calls Tryz.prog 213 #[.int .u64 (n:Int)] w fun e w'=> ∃v' c,e= .returned v'∧c=(num n).length∧w'.ownsRow w.heap.size 5 1 v' c (bvals (num n))∧Below w.heap.size w w':=by
 have HN10:=hid (num_len10 hn)
 obtain ⟨i0,hi,hz0,hz1,hz2⟩:=info_parts Tryz.info5
 have FI:=hid hi
 have FZ0:=hid hz0
 have FZ1:=hid hz1
 have FZ2:=hid hz2
 clear hi hz0 hz1 hz2
 go_enter Tryz.func213,Tryz.ntmps213
 go_upto_region 2 with fail
 refine wp_over (fun W=>Hid (W.ownsRow w.heap.size 5 1 (.slice (some ⟨w.heap.size,0,none⟩) 0 0) 0 (bvals []))∧Hid (Below w.heap.size w W)) ⟨own_empty (Nat.le_refl _),(Below.refl _ _).alloc (Nat.le_refl _) _⟩ ?_
 rintro W ⟨HOW0,HB0⟩
 obtain ⟨N,hN⟩:=ex_eq w.heap.size
 rw [hN] at HOW0 HB0 ⊢
 have HN:=hid hN
 clear hN
 go_loopw [0,3] (fun x y wr=> ∃(k:Nat) (cur:List Nat),x= .int .u64 (k:Int)∧k<18446744073709551616∧Hid (cur++num k=num n)∧Hid (wr.ownsRow N 5 1 y cur.length (bvals cur))∧Hid (Below N w wr)) (fun x _ _=>(intOf x).toNat)
 case atStart=>exact ⟨n,[],rfl,hn,rfl,HOW0.o,HB0.o⟩
 case round=>
  obtain ⟨k,cur,rfl,hk,HE,HOW,HBE⟩:=hrel
  have HCL:Hid (cur.length≤10):=hid (by have:=congrArg List.length HE.o;rw [List.length_append] at this;have:=HN10.o;omega)
  have HBS:Hid (N≤wr.heap.size):=hid (by have:=HBE.o.size;have:=HN.o;omega)
  by_cases h128:127<k
  ·have hi128:(127:Int)<(k:Int):=by omega
   have hrem:(k:Int).tmod 128=((k % 128:Nat):Int):=by rw [Int.tmod_eq_emod_of_nonneg (by omega)];omega
   have hquo:(k:Int).tdiv 128=((k/128:Nat):Int):=by rw [Int.tdiv_eq_ediv_of_nonneg (by omega)];omega
   have hkm:k % 128<128:=Nat.mod_lt _ (by decide)
   have HNE:Hid (cur++[k % 128+128]++num (k/128)=num n):=hid (by rw [← HE.o,num_big h128];simp)
   obtain ⟨r,hr⟩:=ex_eq (k % 128)
   rw [hr] at hrem hkm HNE
   have HBV:Hid (bvals cur++[.int .u8 ((r:Int)+128)]=bvals (cur++[r+128])):=hid (by rw [bvals_snoc,Int.natCast_add];rfl)
   have hk2:k/128<k:=by omega
   obtain ⟨q,hq⟩:=ex_eq (k/128)
   rw [hq] at hquo HNE hk2
   clear hr hq
   go_upto_region 4 with (first
    | (at_builtin
       refine wpList_append_own _ rfl _ _ 52 rfl N 5 i0 (.int .u8 0) 1 1 Tryz.underlying52 FI.o FZ0.o FZ1.o FZ2.o rfl (by decide) _ _ _ rfl (HOW.o.alloc _) ⟨wr.heap.size,0,none⟩ 1 1 [.int .u8 ((r:Int)+128)] rfl rfl (cell_one_new _ _ _) (by simp [Value.oneCell']) (by have:=HCL.o;unfold maxLen;omega) (by have:=HCL.o;omega) (by have:=HBS.o;simp;omega) ?_
       intro v' w4 hown4 hgr4 _
       have HO4:Hid (w4.ownsRow N 5 1 v' (cur.length+1) (bvals (cur++[r+128]))):=by rw [← HBV.o];exact hown4
       have HC4:Hid (Chg (fun q _=>N≤q) wr w4):=(Chg.alloc1 wr _).trans (Chg.of_grown hgr4 (fun q _ e=>(HOW.o.lt q e).1))
       clear hown4 hgr4))
   go_wp2_with fail
   go_roundw
   case rel=>exact ⟨q,cur++[r+128],by go_num,by omega,HNE.o,by rw [List.length_append];exact HO4.o,HBE.o.trans (HC4.o.below HBS.o (fun q i hq h=>by omega))⟩
   case measure=>simp [intOf];omega
  ·have hi128: ¬(127:Int)<(k:Int):=by omega
   have HBV:Hid (bvals cur++[.int .u8 (k:Int)]=bvals (cur++[k])):=hid (by rw [bvals_snoc])
   have HNE:Hid (cur++[k]=num n):=hid (by rw [← HE.o,num_small (by omega)])
   go_wp2_with (first
    | (at_builtin
       refine wpList_append_own _ rfl _ _ 52 rfl N 5 i0 (.int .u8 0) 1 1 Tryz.underlying52 FI.o FZ0.o FZ1.o FZ2.o rfl (by decide) _ _ _ rfl (HOW.o.alloc _) ⟨wr.heap.size,0,none⟩ 1 1 [.int .u8 (k:Int)] rfl rfl (cell_one_new _ _ _) (by simp [Value.oneCell']) (by have:=HCL.o;unfold maxLen;omega) (by have:=HCL.o;omega) (by have:=HBS.o;simp;omega) ?_
       intro v' w4 hown4 hgr4 _
       have HO4:Hid (w4.ownsRow N 5 1 v' (cur.length+1) (bvals (cur++[k]))):=by rw [← HBV.o];exact hown4
       have HC4:Hid (Chg (fun q _=>N≤q) wr w4):=(Chg.alloc1 wr _).trans (Chg.of_grown hgr4 (fun q _ e=>(HOW.o.lt q e).1))
       clear hown4 hgr4))
   go_ret
   have HLE:Hid (cur.length+1=(num n).length):=hid (by rw [← HNE.o,List.length_append];rfl)
   exact ⟨_,rfl,by have h:=HO4.o;rw [HNE.o,HLE.o] at h;rw [HN.o];exact h,by rw [HN.o];exact HBE.o.trans (HC4.o.below HBS.o (fun q i hq h=>by omega))⟩
theorem pad_zeros (n j:Nat) (hj:j≤Sha.zeros n):(n+1+j) % 64=56↔j=Sha.zeros n:=by
 unfold Sha.zeros at*
 omega
theorem repl_snoc (xs:List Nat) (j:Nat):(xs++128::List.replicate j 0)++[0]=xs++128::List.replicate (j+1) 0:=by
 rw [List.replicate_succ',List.append_assoc,List.cons_append]
theorem shift8 (n t:Nat) (h:t<8):((n:Nat):Int)/2 ^ (8*(7 - t)) % 256=((n/256 ^ (7 - t) % 256:Nat):Int):=by
 rw [Int.pow_mul,show (2:Int) ^ 8=((256:Nat):Int) by rfl,Int.natCast_emod,Int.natCast_ediv,Int.natCast_pow]
 rfl
theorem refPad_l (a:Option Addr) (cap:Nat) (xs:List Nat) (L:Nat) (hLe:xs.length=L) (hnil:a=none→cap=0) (hl:L≤100000000000) (w:World) (hB:BytesAt w a xs):
    Calls Tryz.prog 248 #[.slice a L cap] w fun e w'=> ∃v' c,e= .returned v'∧c=(Sha.pad xs).length∧w'.ownsRow w.heap.size 5 1 v' c (bvals (Sha.pad xs))∧Below w.heap.size w w':=by
 have HB:=hid hB
 have HNIL:=hid hnil
 have HLE:=hid hLe
 have HPZ:=hid (fun j h=>pad_zeros L j h)
 have HPAD:Hid (Sha.pad xs=(xs++128::List.replicate (Sha.zeros L) 0)++Sha.be8 (8*L)):=hid (by unfold Sha.pad;rw [hLe];simp)
 have hz64:Sha.zeros L<64:=by unfold Sha.zeros;omega
 obtain ⟨Z,hZ⟩:=ex_eq (Sha.zeros L)
 rw [hZ] at HPZ HPAD hz64
 clear hB hnil hLe hZ
 go_enter Tryz.func248,Tryz.ntmps248
 obtain ⟨N,hN⟩:=ex_eq w.heap.size
 have HN:=hid hN
 have HW:Hid (N≤w.heap.size):=hid (by omega)
 have HE:=hid (own_empty (w:=w) (base:=N) HW.o)
 have HBE:Hid (Below N w (w.alloc (.cells #[] 5))):=hid ((Below.refl _ _).alloc HW.o _)
 rw [hN]
 clear hN
 go_upto_region 2 with (first
  | (at_builtin
     refine app_bytes rfl _ _ rfl N _ 0 [] (by rfl) HE.o (by have:=HBE.o.size;have:=HN.o;omega) (by omega) a L cap xs HLE.o (by omega) (by rfl) (HB.o.later (by rw [HN.o];exact HBE.o)) HNIL.o ?_
     intro v1 w1 ho1 hb1
     have HO1:=hid ho1
     have HB1:=hid (HBE.o.trans hb1)
     clear ho1 hb1)
  | (at_builtin
     refine app_byte rfl _ _ rfl N v1 (0+L) ([]++xs) (by rfl) HO1.o (by have:=HB1.o.size;have:=HN.o;omega) (by omega) 128 128 rfl 1 (by rfl) ?_
     intro v2 w2 ho2 hb2
     have HO2:=hid ho2
     have HB2:=hid (HB1.o.trans hb2)
     clear ho2 hb2))
 have HO2':Hid (w2.ownsRow N 5 1 v2 (L+1+0) (bvals (xs++128::List.replicate 0 0))):=hid (by
  have h:=HO2.o
  rw [Nat.zero_add,List.nil_append] at h
  exact h)
 clear HO2 HO1 HE HBE HB1
 go_loopw [3] (fun x wr=> ∃j:Nat,j≤Z∧Hid (wr.ownsRow N 5 1 x (L+1+j) (bvals (xs++128::List.replicate j 0)))∧Hid (Below N w wr)) (fun x _=>Z+L+2 - sliceLen x)
 case atStart=>exact ⟨0,Nat.zero_le _,HO2'.o,HB2.o⟩
 case round=>
  obtain ⟨j,hj,HOW,HBE⟩:=hrel
  have HWR:Hid (N≤wr.heap.size):=hid (by have:=HBE.o.size;have:=HN.o;omega)
  obtain ⟨M,hM⟩:=ex_eq (L+j)
  have hM2:L+1+j=M+1:=by omega
  have hMl:M≤200000000000:=by omega
  have HRK:Hid ((M+1) % 64=56↔j=Z):=hid (by rw [← hM2];exact HPZ.o j hj)
  have HMJ:=hid hM
  rw [hM2] at HOW
  clear hM hM2
  obtain ⟨g,cp,rfl⟩:=ownsRow_succ HOW.o
  obtain ⟨r,hr⟩:=ex_eq ((M+1) % 64)
  have hm:((M:Int)+1).tmod 64=(r:Int):=by rw [Int.tmod_eq_emod_of_nonneg (by omega)];omega
  have hm2:((M:Int)+1) % 64=(r:Int):=by omega
  rw [hr] at HRK
  clear hr
  by_cases hjz:j<Z
  ·have hne:((r:Int) != 56)=true:=by
      rw [bne_iff_ne];intro h;have:=HRK.o.1 (by omega);omega
   go_wp2_with (first
    | (at_builtin
       refine app_byte rfl _ _ rfl N _ (M+1) (xs++128::List.replicate j 0) (by rfl) HOW.o HWR.o (by omega) 0 0 rfl 1 (by rfl) ?_
       intro v4 w4 ho4 hb4
       have HO4:=hid ho4
       have HB4:=hid (HBE.o.trans hb4)
       clear ho4 hb4
       obtain ⟨g4,cp4,hv4⟩:=ownsRow_succ HO4.o
       subst hv4))
   go_roundw
   case rel=>exact ⟨j+1,hjz,by have h:=HO4.o;rw [repl_snoc] at h;rw [show L+1+(j+1)=M+1+1 by have:=HMJ.o;omega];exact h,HB4.o⟩
   case measure=>have:=HMJ.o;simp [sliceLen];omega
  ·have hjz2:j=Z:=by omega
   subst hjz2
   have hne:((r:Int) != 56)=false:=by
    have h:=HRK.o.2 rfl
    rw [h];rfl
   have hw8:IntKind.u64.wrap (L:Int)=(L:Int):=by rw [IntKind.wrap_u64];omega
   have hw88:IntKind.u64.wrap ((L:Int)*8)=((8*L:Nat):Int):=by rw [IntKind.wrap_u64];omega
   obtain ⟨B8,hB8⟩:=ex_eq (8*L)
   rw [hB8] at hw88 HPAD
   have HPB:Hid (Sha.pad xs=(xs++128::List.replicate j 0)++(Sha.be8 B8).take 8):=hid (by rw [HPAD.o,List.take_of_length_le (by rw [Sha.be8_length];exact Nat.le_refl _)])
   obtain ⟨base,hbase⟩:=ex_eq (xs++128::List.replicate j 0)
   rw [hbase] at HOW HPB
   have HOW0:Hid (wr.ownsRow N 5 1 (.slice (some ⟨g,0,none⟩) (M+1) cp) (M+1+0) (bvals (base++(Sha.be8 B8).take 0))):=hid (by rw [List.take_zero,List.append_nil];exact HOW.o)
   rename World=>wa
   have HBA:=HBE
   go_upto_region 6 with fail
   clear HOW HBE hm hm2 hne HRK hB8
   go_loopw [3,5] (fun x y wr=> ∃t:Nat,t≤8∧y= .int .i64 (7 - (t:Int))∧Hid (wr.ownsRow N 5 1 x (M+1+t) (bvals (base++(Sha.be8 B8).take t)))∧Hid (Below N w wr)) (fun x _ _=>M+10 - sliceLen x)
   case atStart=>exact ⟨0,by omega,rfl,HOW0.o,HBA.o⟩
   case round=>
    obtain ⟨t,ht,rfl,HOW,HBE⟩:=hrel
    have HWR:Hid (N≤wr.heap.size):=hid (by have:=HBE.o.size;have:=HN.o;omega)
    obtain ⟨K,hK⟩:=ex_eq (M+1+t)
    have hKl:K≤300000000000:=by omega
    rw [hK] at HOW
    have HK:=hid hK
    clear hK
    have HSL:Hid (sliceLen u3=K):=hid (by
     obtain ⟨K',rfl⟩: ∃K',K=K'+1:=⟨K - 1,by have:=HK.o;omega⟩
     obtain ⟨g4,cp4,rfl⟩:=ownsRow_succ HOW.o
     rfl)
    by_cases ht8:t<8
    ·obtain ⟨q,hq⟩: ∃q:Nat,(7:Int) - (t:Int)=(q:Int):=⟨7 - t,by omega⟩
     have HQ:=hid hq
     have hq7:q≤7:=by omega
     obtain ⟨e8,he8⟩:=ex_eq (8*q)
     have hq8:(8:Int)*(q:Int)=(e8:Int):=by omega
     have he:e8≤56:=by omega
     have HE8:Hid (e8=8*(7 - t)):=hid (by omega)
     rw [hq]
     clear hq ht he8
     go_wp2_with (first
      | (at_builtin
         refine app_byte rfl _ _ rfl N _ K (base++(Sha.be8 B8).take t) (by rfl) HOW.o HWR.o (by omega) _ (B8/256 ^ (7 - t) % 256) (by rw [HE8.o];exact shift8 B8 t ht8) 1 (by rfl) ?_
         intro v4 w4 ho4 hb4
         have HO4:=hid ho4
         have HB4:=hid (HBE.o.trans hb4)
         clear ho4 hb4
         obtain ⟨g4,cp4,hv4⟩:=ownsRow_succ HO4.o
         subst hv4))
     go_roundw
     case rel=>exact ⟨t+1,ht8,by have:=HQ.o;congr 1;omega,by have h:=HO4.o;rw [List.append_assoc,← be8_take _ _ ht8] at h;rw [show M+1+(t+1)=K+1 by have:=HK.o;omega];exact h,HB4.o⟩
     case measure=>rw [HSL.o];have:=HK.o;simp [sliceLen];omega
    ·have e8:t=8:=by omega
     subst e8
     go_wp2_with fail
     go_ret
     have HLE:Hid (K=(Sha.pad xs).length):=hid (by
      have h:=HOW.o.1
      rw [bvals_length,← HPB.o,Nat.mul_one] at h
      exact h.symm)
     exact ⟨_,K,rfl,HLE.o,by have h:=HOW.o;rw [← HPB.o] at h;exact h,HBE.o⟩
theorem refRot_any (x:BitVec 32) (k:Nat) (h0:0<k) (h:k<32) (w:World):
    Calls Tryz.prog 292 #[.int .u32 (v x),.int .i64 (k:Int)] w fun e w'=>e= .returned (.int .u32 (v (Sha.rot x k)))∧ ∃n,w'=w.drewN n:=by
 obtain ⟨m,hm⟩: ∃m,32 - k=m:=⟨_,rfl⟩
 have hmi:(32:Int) - (k:Int)=(m:Int):=by omega
 have hm32:m<32:=by omega
 have hm0:0<m:=by omega
 have hrot:Sha.rot x k=x >>> k ||| x <<< m:=by unfold Sha.rot;rw [hm]
 rw [hrot]
 obtain ⟨Q0,hq0⟩: ∃Q:Prop,Hid Q:=⟨True,trivial⟩
 have r2:=Sha.f_shl Q0 m
 have r3:=Sha.f_shr Q0 k
 have r4:=Sha.f_or Q0
 have r9:=Sha.f_nonneg Q0
 clear hm hrot
 go_enter Tryz.func292,Tryz.ntmps292
 go_upto_region 1 with fail
 go_quiet (fail)
 go_wp2_with fail
 go_ret
 exact ⟨rfl,_,rfl⟩
theorem refRot2 (x:BitVec 32) (w:World):Calls Tryz.prog 292 #[.int .u32 (v x),.int .i64 2] w fun e w'=>e= .returned (.int .u32 (v (Sha.rot x 2)))∧ ∃n,w'=w.drewN n:=refRot_any x 2 (by decide) (by decide) w
theorem refRot6 (x:BitVec 32) (w:World):Calls Tryz.prog 292 #[.int .u32 (v x),.int .i64 6] w fun e w'=>e= .returned (.int .u32 (v (Sha.rot x 6)))∧ ∃n,w'=w.drewN n:=refRot_any x 6 (by decide) (by decide) w
theorem refRot7 (x:BitVec 32) (w:World):Calls Tryz.prog 292 #[.int .u32 (v x),.int .i64 7] w fun e w'=>e= .returned (.int .u32 (v (Sha.rot x 7)))∧ ∃n,w'=w.drewN n:=refRot_any x 7 (by decide) (by decide) w
theorem refRot11 (x:BitVec 32) (w:World):Calls Tryz.prog 292 #[.int .u32 (v x),.int .i64 11] w fun e w'=>e= .returned (.int .u32 (v (Sha.rot x 11)))∧ ∃n,w'=w.drewN n:=refRot_any x 11 (by decide) (by decide) w
theorem refRot13 (x:BitVec 32) (w:World):Calls Tryz.prog 292 #[.int .u32 (v x),.int .i64 13] w fun e w'=>e= .returned (.int .u32 (v (Sha.rot x 13)))∧ ∃n,w'=w.drewN n:=refRot_any x 13 (by decide) (by decide) w
theorem refRot17 (x:BitVec 32) (w:World):Calls Tryz.prog 292 #[.int .u32 (v x),.int .i64 17] w fun e w'=>e= .returned (.int .u32 (v (Sha.rot x 17)))∧ ∃n,w'=w.drewN n:=refRot_any x 17 (by decide) (by decide) w
theorem refRot18 (x:BitVec 32) (w:World):Calls Tryz.prog 292 #[.int .u32 (v x),.int .i64 18] w fun e w'=>e= .returned (.int .u32 (v (Sha.rot x 18)))∧ ∃n,w'=w.drewN n:=refRot_any x 18 (by decide) (by decide) w
theorem refRot19 (x:BitVec 32) (w:World):Calls Tryz.prog 292 #[.int .u32 (v x),.int .i64 19] w fun e w'=>e= .returned (.int .u32 (v (Sha.rot x 19)))∧ ∃n,w'=w.drewN n:=refRot_any x 19 (by decide) (by decide) w
theorem refRot22 (x:BitVec 32) (w:World):Calls Tryz.prog 292 #[.int .u32 (v x),.int .i64 22] w fun e w'=>e= .returned (.int .u32 (v (Sha.rot x 22)))∧ ∃n,w'=w.drewN n:=refRot_any x 22 (by decide) (by decide) w
theorem refRot25 (x:BitVec 32) (w:World):Calls Tryz.prog 292 #[.int .u32 (v x),.int .i64 25] w fun e w'=>e= .returned (.int .u32 (v (Sha.rot x 25)))∧ ∃n,w'=w.drewN n:=refRot_any x 25 (by decide) (by decide) w
def konZ:List Int:=[1116352408,1899447441,3049323471,3921009573,961987163,1508970993,2453635748,2870763221,3624381080,310598401,607225278,1426881987,1925078388,2162078206,2614888103,3248222580,3835390401,4022224774,264347078,604807628,770255983,1249150122,1555081692,1996064986,2554220882,2821834349,2952996808,3210313671,3336571891,3584528711,113926993,338241895,666307205,773529912,1294757372,1396182291,1695183700,1986661051,2177026350,2456956037,2730485921,2820302411,3259730800,3345764771,3516065817,3600352804,4094571909,275423344,430227734,506948616,659060556,883997877,958139571,1322822218,1537002063,1747873779,1955562222,2024104815,2227730452,2361852424,2428436474,2756734187,3204031479,3329325298]
def konA:Array Value:=(konZ.map (Value.int .u32)).toArray
theorem konA_eq:konA=(Sha.kList.map fun (n:Nat)=>Value.int .u32 (n:Int)).toArray:=by kernel_rfl
theorem konA_size:konA.size=64:=by rw [konA_eq,List.size_toArray,List.length_map,Sha.kList_length]
theorem konA_one:konA.all (·.oneCell')=true:=by
 rw [konA,List.all_toArray,List.all_eq_true]
 intro v hv
 obtain ⟨x,_,rfl⟩:=List.mem_map.1 hv
 rfl
theorem konA_get (t:Nat) (h:t<64):konA[t]? =some (.int .u32 (v (Sha.kon t))):=by
 rw [konA_eq]
 unfold Sha.kon
 rw [Sha.ofNat_v _ (Sha.kList_lt t h),List.getElem?_toArray,List.getElem?_map,lD,lE (by rw [Sha.kList_length];exact h)]
 rfl
theorem wpList_buildArrL {P:Program} {ops:Array Oper} {rest:List Oper} {o:Oper} {a:Act} {w:World} {Q:Exit→Act→World→Prop} (hg:o.guard=none) (t e:TypeId) (n:Nat) (parts:Array (Nat × Operand)) (ho:o.op= .build t parts)
    (k:IntKind) (zs:List Int) (K:Array Value) (hc:(zs.map (Value.int k)).toArray=K)
    (hu:P.underlying t=some (.array n e)) (hsz:(P.info? e).map (·.size)=some 1) (hz:((P.info? t).bind (·.zero)).map (·.cells.size)=some zs.length)
    (hparts:parts.toList=(zs.zipIdx 0).map fun x=>(x.2,Operand.const (Value.int k x.1)))
    (h:wpList P ops Q rest (a.put o.dst (.agg K)) w):wpList P ops Q (o::rest) a w:=by
 subst hc
 exact wpList_buildFlatArr hg t e n parts ho k zs hu hsz hz hparts h
theorem zero149_new (w:World):(w.alloc (.cells Tryz.zeroW 356)).heap[w.heap.size]? =some (.cells Tryz.zeroW 356 (0,0)):=heap_alloc_new _ _
theorem Tryz.size149:(Tryz.prog.info? 356).map (·.size)=some 64:=by kernel_rfl
theorem Tryz.esize149:(Tryz.prog.info? 304).map (·.size)=some 1:=by kernel_rfl
theorem Tryz.zs149:((Tryz.prog.info? 356).bind (·.zero)).map (·.cells.size)=some konZ.length:=by kernel_rfl
theorem refKon_any (w:World):Calls Tryz.prog 291 #[] w fun e w'=>e= .returned (.agg konA)∧Below w.heap.size w w':=by
 obtain ⟨KA,hKA⟩: ∃K,konA=K:=⟨_,rfl⟩
 have hs:=konA_size
 have h1:=konA_one
 rw [hKA] at hs h1
 have HKA:=hid hKA
 have HS:=hid hs
 have H1:=hid h1
 rw [hKA]
 clear hKA hs h1
 go_enter Tryz.func291,Tryz.ntmps291
 go_upto_region 1 with fail
 refine wp_over (fun W=>Hid (W.heap[w.heap.size]? =some (.cells Tryz.zeroW 356 (0,0)))∧Hid (Below w.heap.size w W)) ⟨zero149_new w,(Below.refl _ _).alloc (Nat.le_refl _) _⟩ ?_
 rintro V ⟨HV,HBV⟩
 obtain ⟨N,hN⟩:=ex_eq w.heap.size
 rw [hN] at HV HBV ⊢
 have HN:=hid hN
 clear hN
 go_wp2_with (first
  | (refine wpList_buildArrL rfl 356 304 64 _ rfl .u32 konZ KA HKA.o Tryz.underlying356 Tryz.esize149 Tryz.zs149 (by kernel_rfl) ?_)
  | (refine wpList_store_row rfl 356 (.tmp 0) (.tmp 1) rfl N KA (by rfl) (by rfl) 356 Tryz.zeroW (by exact HV.o) (by rw [HS.o];exact Tryz.size149) (by rw [HS.o];exact Tryz.zeroW_size) H1.o ?_))
 refine bodyPost_ret (results_cell_row (p:=0) rfl _ _ N 356 KA (0,0) _ (by rfl) (setRow_heap _ _ _ _ _ _ HV.o) Tryz.underlying356 rfl (by rw [HS.o];exact Tryz.size149)) rfl ⟨rfl,?_⟩
 rw [HN.o];exact below_setRow HBV.o (Nat.le_refl _) _
theorem quiet3 {P:Program} {f:FuncId} {args:Array Value} {w:World} {q n:Nat} {v:Value}
    (h:Calls P f args (w.drewN (q+n)) fun e w'=>e= .returned v∧ ∃m,w'=(w.drewN (q+n)).drewN m):Calls P f args (w.drewN (q+n)) fun e w''=>e= .returned v∧ ∃m,w''=w.drewN (q+m):=
 h.mono fun _ _ ⟨he,m,hm⟩=>⟨he,n+m,by rw [hm,World.drewN_drewN,Nat.add_assoc]⟩
theorem Tryz.built149: Tryz.prog.built 356 []=some Tryz.zeroW:=by kernel_rfl
theorem wpList_buildL {P:Program} {ops:Array Oper} {rest:List Oper} {o:Oper} {a:Act} {w:World} {Q:Exit→Act→World→Prop} (hg:o.guard=none) (t:TypeId) (parts:Array (Nat × Operand)) (ho:o.op= .build t parts) (cells:Array Value)
    (hf:P.built t (parts.map fun (i,x)=>(i,a.eval x)).toList=some cells)
    (h:wpList P ops Q rest (a.put o.dst (.agg cells)) w):wpList P ops Q (o::rest) a w:=
 wpList_plain hg fun _ hK=>Kit.wp_build_to t parts ho cells hf (hK _ _ h)
theorem wordsL_size (S:Sha.St):(wordsL S).toArray.size=8:=rfl
theorem wordsL_one (S:Sha.St):(wordsL S).toArray.all (·.oneCell')=true:=by simp [wordsL,Value.oneCell']
theorem Tryz.zeroW_one: Tryz.zeroW.all (·.oneCell')=true:=by
 unfold Tryz.zeroW
 rw [List.all_toArray,List.all_eq_true]
 intro v hv
 rw [List.eq_of_mem_replicate hv];rfl
theorem Tryz.size128:(Tryz.prog.info? 305).map (·.size)=some 8:=by kernel_rfl
structure MixAt (w:World) (b:Nat) (R T:Sha.St) (k:Nat):Prop where
 cell: ∀i,i<8→w.cell? ⟨b,i,none⟩=some (.int .u32 (v (if i<k then T.list.getD i 0 else R.list.getD i 0)))
 free: ∀i,i<8→w.frozen? ⟨b,i,none⟩=false
theorem MixAt.step {w:World} {b:Nat} {R T:Sha.St} {k:Nat} {y:BitVec 32} (h:MixAt w b R T k) (hk:k<8) (hy:y=T.list.getD k 0):MixAt (w.setCell ⟨b,k,none⟩ (.int .u32 (v y))) b R T (k+1):=by
 refine ⟨fun i hi=> ?_,fun i hi=>by rw [World.frozen?_setCell];exact h.free i hi⟩
 by_cases e:i=k
 ·subst e
  rw [if_pos (by omega),← hy]
  exact World.cell?_setCell_same _ _ _ (h.cell i hi)
 ·have h1:=h.cell i hi
  have e2:(i<k+1)=(i<k):=propext ⟨fun _=>by omega,fun _=>by omega⟩
  simp only [e2]
  exact set_other h1 (fun e'=>e e'.symm)
theorem MixAt.drew {w:World} {b:Nat} {R T:Sha.St} {k:Nat} (h:MixAt w b R T k):MixAt w.drew b R T k:=⟨h.cell,h.free⟩
theorem mix_row {w:World} {b:Nat} {R T:Sha.St} {t:TypeId} (h:w.heap[b]? =some (.cells (wordsL R).toArray t (0,0))):MixAt w b R T 0:=by
 refine ⟨fun i hi=> ?_,fun i hi=>frozen_of_row _ _ _ _ _ h⟩
 rw [cell_of_row _ _ _ _ _ _ h,if_neg (by omega),List.getElem?_toArray]
 exact wordsL_get R i hi
theorem words_row {w:World} {b:Nat} {R:Sha.St} {t:TypeId} (h:w.heap[b]? =some (.cells (wordsL R).toArray t (0,0))) (i:Nat) (hi:i<8):w.cell? ⟨b,i,none⟩=some (.int .u32 (v (R.list.getD i 0))):=by
 rw [cell_of_row _ _ _ _ _ _ h,List.getElem?_toArray]
 exact wordsL_get R i hi
theorem addSt_getD' (S R:Sha.St) (k:Nat) (h:k<8):R.list.getD k 0+S.list.getD k 0=(Sha.addSt S R).list.getD k 0:=by
 rw [← addSt_getD S R k h,BitVec.add_comm]

theorem refBlock_any (S:Sha.St) (a:Option Addr) (cap:Nat) (xs:List Nat) (hx:xs.length=64) (hcap:64≤cap) (w:World) (hB:BytesAt w a xs) (RS:Array Value) (hRS:(wordsL S).toArray=RS):
    Calls Tryz.prog 249 #[.agg RS,.slice a 64 cap] w fun e w'=>e= .returned (.agg (wordsL (Sha.comp S xs)).toArray)∧Below w.heap.size w w':=by
 have HX:=hid hx
 have HB:=hid hB
 have HRS:=hid hRS
 have hss:=wordsL_size S
 have hs1:=wordsL_one S
 rw [hRS] at hss hs1
 have HSS:=hid hss
 have HS1:=hid hs1
 obtain ⟨KA,hKA⟩: ∃K,konA=K:=⟨_,rfl⟩
 have hks:=konA_size
 have hk1:=konA_one
 have hkg:=konA_get
 rw [hKA] at hks hk1 hkg
 have HKA:=hid hKA
 have HKS:=hid hks
 have HK1:=hid hk1
 have HKG:=hid hkg
 clear hx hB hRS hss hs1 hKA hks hk1 hkg
 go_enter Tryz.func249,Tryz.ntmps249
 go_upto_region 1 with fail
 obtain ⟨N,hN⟩:=ex_eq w.heap.size
 have HN:=hid hN
 refine wp_over (fun W=>Hid (W.heap[w.heap.size]? =some (.cells RS 305 (0,0)))∧Hid (∃z,z.size=8∧W.heap[w.heap.size+1]? =some (.cells z 305 (0,0)))∧Hid (Below w.heap.size w W)∧Hid (W.heap.size=w.heap.size+2)) ⟨?_,?_,?_,?_⟩ ?_
 ·exact (((Below.refl (w.heap.size+1) (w.alloc (.cells RS 305))).alloc (by simp) _).block w.heap.size (Nat.lt_succ_self _)).trans (heap_alloc_new _ _)
 ·refine ⟨#[.int .u32 0,.int .u32 0,.int .u32 0,.int .u32 0,.int .u32 0,.int .u32 0,.int .u32 0,.int .u32 0],rfl,?_⟩
  have h:=heap_alloc_new (w.alloc (.cells RS 305)) (.cells #[.int .u32 0,.int .u32 0,.int .u32 0,.int .u32 0,.int .u32 0,.int .u32 0,.int .u32 0,.int .u32 0] 305)
  simpa using h
 ·exact ((Below.refl _ _).alloc (Nat.le_refl _) _).alloc (by simp) _
 ·show _=_;simp
 rintro W ⟨HR0,HZ0,HB0,HW0⟩
 rw [hN] at HR0 HZ0 HB0 HW0 ⊢
 clear hN
 go_upto_region 2 with (first
  | (go_at_call 291;(with_reducible refine (refKon_any _).mono ?_);rintro e w1 ⟨rfl,h1⟩;(rw [HKA.o]);(have HB1:=hid h1);clear h1)
  | (refine wpList_store_row rfl 356 (.tmp 5) (.tmp 22) rfl w1.heap.size KA (by rfl) (by rfl) 356 Tryz.zeroW (by exact zero149_new w1) (by rw [HKS.o];exact Tryz.size149) (by rw [HKS.o];exact Tryz.zeroW_size) HK1.o ?_))
 obtain ⟨K,hK⟩:=ex_eq w1.heap.size
 have hKN:N+2≤K:=by rw [← hK,← HW0.o];exact HB1.o.size
 refine wp_over (fun V=>Hid (V.heap[w1.heap.size]? =some (.cells KA 356 (0,0)))∧Hid (Below (N+2) W V)∧Hid (V.heap.size=w1.heap.size+1)) ⟨?_,?_,?_⟩ ?_
 ·exact setRow_heap _ _ _ _ _ _ (zero149_new w1)
 ·exact below_setRow ((HB1.o.mono (by rw [HW0.o];exact Nat.le_refl _)).alloc (by rw [hK];exact hKN) _) (by rw [hK];exact hKN) _
 ·show _=_;simp [World.setRow]
 rintro V ⟨HVK,HVB,HVS⟩
 rw [hK] at HVK HVS ⊢
 clear hK HB1
 have HKN:=hid hKN
 clear hKN
 have HBZ:Hid (Tryz.prog.built 356 []=some Tryz.zeroW):=hid Tryz.built149
 obtain ⟨ZW,hZW⟩: ∃Z,Tryz.zeroW=Z:=⟨_,rfl⟩
 rw [hZW] at HBZ
 have HZS:Hid (ZW.size=64):=hid (by rw [← hZW];exact Tryz.zeroW_size)
 have HZ1:Hid (ZW.all (·.oneCell')=true):=hid (by rw [← hZW];exact Tryz.zeroW_one)
 clear hZW
 go_upto_region 3 with (first
  | (refine wpList_buildL rfl 356 #[] rfl ZW (by simp only [Array.map_empty];exact HBZ.o) ?_)
  | (refine wpList_store_row rfl 356 (.tmp 6) (.tmp 23) rfl V.heap.size ZW (by rfl) (by rfl) 356 Tryz.zeroW (by exact zero149_new V) (by rw [HZS.o];exact Tryz.size149) (by rw [HZS.o];exact Tryz.zeroW_size) HZ1.o ?_))
 obtain ⟨M,hM⟩:=ex_eq V.heap.size
 have hMK:M=K+1:=by rw [← hM];exact HVS.o
 refine wp_over (fun X=>Hid (WAt X V.heap.size xs 0)∧Hid (Below V.heap.size V X)∧Hid (X.heap.size=V.heap.size+1)) ⟨?_,?_,?_⟩ ?_
 ·have hg:((V.alloc (.cells Tryz.zeroW 356)).setRow V.heap.size ZW).heap[V.heap.size]? =some (.cells ZW 356 (0,0)):=setRow_heap _ _ _ _ _ _ (zero149_new V)
  exact ⟨fun i hi=>by omega,fun i hi=>⟨_,(cell_of_row _ _ _ _ _ _ hg).trans (Array.getElem?_eq_getElem (by rw [HZS.o];exact hi))⟩,fun i hi=>frozen_of_row _ _ _ _ _ hg⟩
 ·exact below_setRow ((Below.refl _ _).alloc (Nat.le_refl _) _) (Nat.le_refl _) _
 ·show _=_;simp [World.setRow]
 rintro X ⟨HX0,HXB,HXS⟩
 rw [hM] at HX0 HXB HXS ⊢
 clear hM
 have HMK:=hid hMK
 clear hMK
 have HKON:Hid (∀Y,Below M X Y→ ∀t,t<64→Y.cell? ⟨K,t,none⟩=some (.int .u32 (v (Sha.kon t)))):=hid (fun Y hY t ht=>by
  have h1:=(hY.block K (by have:=HMK.o;omega)).trans ((HXB.o.block K (by have:=HVS.o;have:=HMK.o;omega)).trans HVK.o)
  rw [cell_of_row _ _ _ _ _ _ h1]
  exact HKG.o t ht)
 have HSN:Hid (∀Y,Below M X Y→Y.heap[N]? =some (.cells RS 305 (0,0))):=hid (fun Y hY=>by
  have a1:=HKN.o;have a2:=HMK.o;have a3:=HVS.o
  exact (hY.block N (by omega)).trans ((HXB.o.block N (by omega)).trans ((HVB.o.block N (by omega)).trans HR0.o)))
 have HZN:Hid (∀Y,Below M X Y→ ∃z,z.size=8∧Y.heap[N+1]? =some (.cells z 305 (0,0))):=hid (fun Y hY=>by
  have a1:=HKN.o;have a2:=HMK.o;have a3:=HVS.o
  obtain ⟨z,hz,h⟩:=HZ0.o
  exact ⟨z,hz,(hY.block (N+1) (by omega)).trans ((HXB.o.block (N+1) (by omega)).trans ((HVB.o.block (N+1) (by omega)).trans h))⟩)
 have HXW:Hid (Below N w X):=hid (by
  have a1:=HKN.o;have a2:=HMK.o;have a3:=HVS.o
  exact (HB0.o.trans (HVB.o.mono (by omega))).trans (HXB.o.mono (by omega)))
 have HBY:Hid (∀Y,Below M X Y→BytesAt Y a xs):=hid (fun Y hY=>HB.o.later (by
  have a1:=HKN.o;have a2:=HMK.o;have a3:=HVS.o
  rw [HN.o];exact HXW.o.trans (hY.mono (by omega))))
 clear HR0 HZ0 HB0 HW0 HVK HVB HXB HVS HB HKG HKS HK1 HKA
 go_wp2_with fail
 go_loopw [7] (fun i wr=> ∃k:Nat,k≤16∧i= .int .i64 k∧Hid (WAt wr M xs k)∧Hid (Below M X wr)) (fun i _=>16 - (intOf i).toNat)
 case atStart=>exact ⟨0,by omega,rfl,HX0,Below.refl _ _⟩
 case round=>
  obtain ⟨k,hk,rfl,HWA,HBE⟩:=hrel
  by_cases hlt:k<16
  ·have hki:(k:Int)<16:=by omega
   obtain ⟨old,hold⟩:=HWA.o.cell k (by omega)
   have hfree:=HWA.o.free k (by omega)
   obtain ⟨b',o',e',hc⟩:=(HBY.o _ HBE.o).some (by rw [HX.o];omega)
   subst e'
   have c0:=hc (4*k) (by rw [HX.o];omega)
   have c1:=hc (4*k+1) (by rw [HX.o];omega)
   have c2:=hc (4*k+2) (by rw [HX.o];omega)
   have c3:=hc (4*k+3) (by rw [HX.o];omega)
   have x0:=(HBY.o _ HBE.o).getD_lt (4*k) (by rw [HX.o];omega)
   have x1:=(HBY.o _ HBE.o).getD_lt (4*k+1) (by rw [HX.o];omega)
   have x2:=(HBY.o _ HBE.o).getD_lt (4*k+2) (by rw [HX.o];omega)
   have x3:=(HBY.o _ HBE.o).getD_lt (4*k+3) (by rw [HX.o];omega)
   have HNX:Hid (Sha.word (xs.getD (4*k) 0) (xs.getD (4*k+1) 0) (xs.getD (4*k+2) 0) (xs.getD (4*k+3) 0)=Sha.next xs (Sha.sched xs k) k):=(next_low hlt).symm
   clear hc
   generalize xs.getD (4*k) 0=z0 at c0 x0 HNX
   generalize xs.getD (4*k+1) 0=z1 at c1 x1 HNX
   generalize xs.getD (4*k+2) 0=z2 at c2 x2 HNX
   generalize xs.getD (4*k+3) 0=z3 at c3 x3 HNX
   go_wp2_with fail
   refine Kit.wp_region_quiet_tail 34 (by kernel_rfl) (by kernel_rfl) ?_
   simp only [List.take_succ_cons,List.take_zero,List.drop_succ_cons,List.drop_zero]
   repeat (go_big_quiet_step (fail))
   refine wpQuiet_nil ?_
   go_wp2_with fail
   go_roundw
   case rel=>exact ⟨k+1,by omega,by go_num,by show WAt _ _ _ _;rw [Sha.word_bits _ _ _ _ x0 x1 x2 x3];exact (HWA.o.step (by omega) HNX.o).drew,(HBE.o.setCell (p:=⟨M,k,none⟩) (Nat.le_refl _) _).drew⟩
   case measure=>simp [intOf];omega
  ·have e:k=16:=by omega
   subst e
   rw [show (((16:Nat)):Int)=16 from rfl]
   rename World=>w2
   obtain ⟨Q0,hq0⟩: ∃Q:Prop,Hid Q:=⟨True,trivial⟩
   have HWA2:=HWA
   have HBE2:=HBE
   clear HWA HBE
   go_wp2_with fail
   go_loopw [8,9,10] (fun i y9 y10 wr=> ∃k:Nat,16≤k∧k≤64∧i= .int .i64 k∧Hid (WAt wr M xs k)∧Hid (Below M X wr)) (fun i _ _ _=>64 - (intOf i).toNat)
   case atStart=>exact ⟨16,by omega,by omega,rfl,HWA2.o,HBE2.o⟩
   case round=>
    obtain ⟨k,h16,hk,rfl,HWA,HBE⟩:=hrel
    by_cases hlt:k<64
    ·have hki:(k:Int)<64:=by omega
     obtain ⟨old,hold⟩:=HWA.o.cell k hlt
     have hfree:=HWA.o.free k hlt
     have HNX:=hid (next_high (xs:=xs) (show ¬k<16 by omega) hlt)
     have c2:=HWA.o.done (k - 2) (by omega)
     have c7:=HWA.o.done (k - 7) (by omega)
     have c15:=HWA.o.done (k - 15) (by omega)
     have c16:=HWA.o.done (k - 16) (by omega)
     generalize (Sha.sched xs 64).getD (k - 2) 0=y2 at c2 HNX
     generalize (Sha.sched xs 64).getD (k - 7) 0=y7 at c7 HNX
     generalize (Sha.sched xs 64).getD (k - 15) 0=y15 at c15 HNX
     generalize (Sha.sched xs 64).getD (k - 16) 0=y16 at c16 HNX
     obtain ⟨p2,hp2⟩: ∃p,k - 2=p:=⟨_,rfl⟩
     obtain ⟨p7,hp7⟩: ∃p,k - 7=p:=⟨_,rfl⟩
     obtain ⟨p15,hp15⟩: ∃p,k - 15=p:=⟨_,rfl⟩
     obtain ⟨p16,hp16⟩: ∃p,k - 16=p:=⟨_,rfl⟩
     have i2:(k:Int) - 2=(p2:Int):=by omega
     have i7:(k:Int) - 7=(p7:Int):=by omega
     have i15:(k:Int) - 15=(p15:Int):=by omega
     have i16:(k:Int) - 16=(p16:Int):=by omega
     have l2:p2<64:=by omega
     have l7:p7<64:=by omega
     have l15:p15<64:=by omega
     have l16:p16<64:=by omega
     rw [hp2] at c2
     rw [hp7] at c7
     rw [hp15] at c15
     rw [hp16] at c16
     clear hp2 hp7 hp15 hp16
     have l2':(p2:Int)<64:=by omega
     have l7':(p7:Int)<64:=by omega
     have l15':(p15:Int)<64:=by omega
     have l16':(p16:Int)<64:=by omega
     have w2':IntKind.i64.wrap (p2:Int)=(p2:Int):=by rw [IntKind.wrap_i64];omega
     have w7':IntKind.i64.wrap (p7:Int)=(p7:Int):=by rw [IntKind.wrap_i64];omega
     have w15':IntKind.i64.wrap (p15:Int)=(p15:Int):=by rw [IntKind.wrap_i64];omega
     have w16':IntKind.i64.wrap (p16:Int)=(p16:Int):=by rw [IntKind.wrap_i64];omega
     have r1:=Sha.f_xor Q0
     have r2:=Sha.f_add Q0
     have r3:=Sha.f_shr10 Q0
     have r4:=Sha.f_shr3 Q0
     have r9:=Sha.f_nonneg Q0
     go_upto_region 10 with fail
     refine wp_region_quiet_lit (by kernel_rfl) (by kernel_rfl) ?_
     iterate 4 (quiet_step (fail))
     quiet_step (with_reducible exact Calls.quiet_of (refRot7 _ _))
     iterate 4 (quiet_step (fail))
     quiet_step (with_reducible exact Calls.quiet_of (refRot18 _ _))
     repeat (quiet_step (fail))
     refine wpQuiet_nil ?_
     intro _ hw'
     obtain ⟨nq,hw''⟩:=hw'
     subst hw''
     go_upto_region 11 with fail
     refine wp_region_quiet_lit (by kernel_rfl) (by kernel_rfl) ?_
     iterate 4 (quiet_step (fail))
     quiet_step (with_reducible exact quiet3 (refRot17 _ _))
     iterate 4 (quiet_step (fail))
     quiet_step (with_reducible exact quiet3 (refRot19 _ _))
     repeat (quiet_step (fail))
     refine wpQuiet_nil ?_
     intro _ hw'
     obtain ⟨nq,hw''⟩:=hw'
     subst hw''
     go_upto_region 12 with fail
     refine Kit.wp_region_quiet_tail 15 (by kernel_rfl) (by kernel_rfl) ?_
     simp only [List.take_succ_cons,List.take_zero,List.drop_succ_cons,List.drop_zero]
     repeat (go_big_quiet_step (fail))
     refine wpQuiet_nil ?_
     go_wp2_with fail
     go_roundw
     case rel=>exact ⟨k+1,by omega,by omega,by go_num,(HWA.o.drawn _).step hlt (by rw [HNX.o];rfl),(below_drewN HBE.o _).setCell (p:=⟨M,k,none⟩) (Nat.le_refl _) _⟩
     case measure=>simp [intOf];omega
    ·have e:k=64:=by omega
     subst e
     rw [show (((64:Nat)):Int)=64 from rfl]
     rename World=>w3
     have HW3:=HWA
     have HB3:=HBE
     clear HWA HBE HWA2 HBE2
     have HR3:=hid (HSN.o _ HB3.o)
     have HM3:Hid (M+1≤w3.heap.size):=hid (by
      obtain ⟨y,hy⟩:=HW3.o.cell 0 (by omega)
      exact World.block_lt_of_cell? w3 _ hy)
     go_upto_region 14 with (first
      | (with_reducible refine wpList_load_row rfl 305 (.tmp 2) rfl N rfl 305 RS (0,0) _ HR3.o Tryz.underlying305 rfl (by rw [HSS.o];exact Tryz.size128) ?_)
      | (refine wpList_store_row rfl 305 (.tmp 11) (.tmp 116) rfl w3.heap.size RS (by rfl) (by rfl) 305 #[.int .u32 0,.int .u32 0,.int .u32 0,.int .u32 0,.int .u32 0,.int .u32 0,.int .u32 0,.int .u32 0] (by exact heap_alloc_new w3 _) (by rw [HSS.o];exact Tryz.size128) (by rw [HSS.o];rfl) HS1.o ?_))
     obtain ⟨VB,hVB⟩:=ex_eq w3.heap.size
     refine wp_over (fun Y=>Hid (Y.heap[w3.heap.size]? =some (.cells RS 305 (0,0)))∧Hid (Below w3.heap.size w3 Y)) ⟨?_,?_⟩ ?_
     ·exact setRow_heap _ _ _ _ _ _ (heap_alloc_new w3 _)
     ·exact below_setRow ((Below.refl _ _).alloc (Nat.le_refl _) _) (Nat.le_refl _) _
     rintro Y ⟨HYV,HYB⟩
     rw [hVB] at HYV HYB ⊢
     have hVM:M<VB:=by have:=HM3.o;omega
     have HVB:=hid hVB
     clear hVB
     clear HR3 HM3 hVM
     have HVM:Hid (M<VB):=hid (by
      obtain ⟨y,hy⟩:=HW3.o.cell 0 (by omega)
      have h:=World.block_lt_of_cell? w3 _ hy
      rw [HVB.o] at h
      exact h)
     go_wp2_with fail
     go_loopw [12,13,14,15,16,17,18,19,20] (fun t y13 y14 y15 y16 y17 y18 y19 y20 wr=> ∃k:Nat,k≤64∧t= .int .i64 k∧Hid (wr.heap[VB]? =some (.cells (wordsL (Sha.rounds xs S k)).toArray 305 (0,0)))∧Hid (Below VB Y wr)) (fun t _ _ _ _ _ _ _ _ _=>64 - (intOf t).toNat)
     case atStart=>exact ⟨0,by omega,rfl,by show _=_;rw [show Sha.rounds xs S 0=S from rfl,HRS.o];exact HYV.o,Below.refl _ _⟩
     case round=>
      obtain ⟨k,hk,rfl,HROW,HBE⟩:=hrel
      have HBX:Hid (Below M X wr):=hid (HB3.o.trans ((HYB.o.trans HBE.o).mono (Nat.le_of_lt HVM.o)))
      by_cases hlt:k<64
      ·have hki:(k:Int)<64:=by omega
       have hkon:=HKON.o wr HBX.o k hlt
       have hwk:=(HW3.o.later (by rw [HVB.o];exact HYB.o.trans HBE.o)).done k hlt
       have HRN:Hid (Sha.rounds xs S (k+1)=Sha.rnd (Sha.rounds xs S k) (Sha.kon k) ((Sha.sched xs 64).getD k 0)):=rfl
       generalize (Sha.sched xs 64).getD k 0=wk at hwk HRN
       generalize Sha.kon k=kk at hkon HRN
       have c0:=words_row HROW.o 0 (by omega)
       have c1:=words_row HROW.o 1 (by omega)
       have c2:=words_row HROW.o 2 (by omega)
       have c3:=words_row HROW.o 3 (by omega)
       have c4:=words_row HROW.o 4 (by omega)
       have c5:=words_row HROW.o 5 (by omega)
       have c6:=words_row HROW.o 6 (by omega)
       have c7:=words_row HROW.o 7 (by omega)
       obtain ⟨R,hR⟩:=ex_eq (Sha.rounds xs S k)
       rw [hR] at HROW HRN c0 c1 c2 c3 c4 c5 c6 c7
       have HR:=hid hR
       clear hR
       obtain ⟨ra,rb,rc,rd,re,rf,rg,rh⟩:=R
       simp only [Sha.St.list,List.getD_cons_zero,List.getD_cons_succ] at c0 c1 c2 c3 c4 c5 c6 c7
       have r1:=Sha.f_xor Q0
       have r2:=Sha.f_add Q0
       have r3:=Sha.f_and Q0
       have r4:=Sha.f_not Q0
       have r9:=Sha.f_nonneg Q0
       go_upto_region 17 with fail
       go_quiet (fail)
       go_upto_region 18 with fail
       refine wp_region_quiet_lit (by kernel_rfl) (by kernel_rfl) ?_
       iterate 3 (quiet_step (fail))
       quiet_step (with_reducible exact quiet3 (refRot6 _ _))
       iterate 1 (quiet_step (fail))
       quiet_step (with_reducible exact quiet3 (refRot11 _ _))
       iterate 2 (quiet_step (fail))
       quiet_step (with_reducible exact quiet3 (refRot25 _ _))
       repeat (quiet_step (fail))
       refine wpQuiet_nil ?_
       intro _ hw'
       obtain ⟨nq2,hw''⟩:=hw'
       subst hw''
       go_upto_region 20 with (first
        | (go_at_call 292;(with_reducible refine (refRot2 _ _).mono ?_);rintro e w' ⟨rfl,n2,rfl⟩)
        | (go_at_call 292;(with_reducible refine (refRot13 _ _).mono ?_);rintro e w' ⟨rfl,n13,rfl⟩)
        | (go_at_call 292;(with_reducible refine (refRot22 _ _).mono ?_);rintro e w' ⟨rfl,n22,rfl⟩))
       go_wp2_with (first
        | (refine wpList_store_row rfl 305 (.tmp 11) (.tmp 194) rfl VB (wordsL (Sha.rnd ⟨ra,rb,rc,rd,re,rf,rg,rh⟩ kk wk)).toArray (by rfl) (by rfl) 305 (wordsL ⟨ra,rb,rc,rd,re,rf,rg,rh⟩).toArray (by exact HROW.o) (by rw [wordsL_size];exact Tryz.size128) rfl (wordsL_one _) ?_))
       go_roundw
       case rel=>exact ⟨k+1,by omega,by go_num,by show _=_;rw [HRN.o];exact setRow_heap _ _ _ _ _ _ HROW.o,below_setRow (below_drewN HBE.o _) (Nat.le_refl _) _⟩
       case measure=>simp [intOf];omega
      ·have e:k=64:=by omega
       subst e
       rw [show (((64:Nat)):Int)=64 from rfl]
       rename World=>w4
       have HRC:Hid (Sha.comp S xs=Sha.addSt S (Sha.rounds xs S 64)):=rfl
       obtain ⟨R,hR⟩:=ex_eq (Sha.rounds xs S 64)
       rw [hR] at HROW HRC
       obtain ⟨T,hT⟩:=ex_eq (Sha.comp S xs)
       rw [hT] at HRC
       have HT:=hid hT
       clear hT hR
       have HB4:=HBE
       have HMX:Hid (∀Z,Below VB Y Z→Below M X Z):=hid (fun Z hZ=>HB3.o.trans ((HYB.o.trans hZ).mono (Nat.le_of_lt HVM.o)))
       clear HBE HBX hk hlt
       go_wp2_with fail
       go_loopw [21] (fun i wr=> ∃k:Nat,k≤8∧i= .int .i64 k∧Hid (MixAt wr VB R T k)∧Hid (Below VB Y wr)) (fun i _=>8 - (intOf i).toNat)
       case atStart=>exact ⟨0,by omega,rfl,mix_row HROW.o,HB4.o⟩
       case round=>
        obtain ⟨k,hk,rfl,HMA,HBE⟩:=hrel
        by_cases hlt:k<8
        ·have hki:(k:Int)<8:=by omega
         have cv:=HMA.o.cell k hlt
         rw [if_neg (Nat.lt_irrefl k)] at cv
         have hfree:=HMA.o.free k hlt
         have hrow:=HSN.o _ (HMX.o _ HBE.o)
         rw [← HRS.o] at hrow
         have cs:=words_row hrow k hlt
         clear hrow
         have HAD:=hid (addSt_getD' S R k hlt)
         rw [← HRC.o] at HAD
         generalize R.list.getD k 0=yR at cv HAD
         generalize S.list.getD k 0=yS at cs HAD
         have r2:=Sha.f_add Q0
         have r9:=Sha.f_nonneg Q0
         go_upto_region 24 with fail
         refine Kit.wp_region_quiet_tail 8 (by kernel_rfl) (by kernel_rfl) ?_
         simp only [List.take_succ_cons,List.take_zero,List.drop_succ_cons,List.drop_zero]
         repeat (go_big_quiet_step (fail))
         refine wpQuiet_nil ?_
         go_wp2_with fail
         go_roundw
         case rel=>exact ⟨k+1,by omega,by go_num,HMA.o.drew.step hlt HAD.o,HBE.o.drew.setCell (p:=⟨VB,k,none⟩) (Nat.le_refl _) _⟩
         case measure=>simp [intOf];omega
        ·have e:k=8:=by omega
         subst e
         have hsT:=wordsL_size T
         have hs1:=wordsL_one T
         have hcs: ∀j u,(wordsL T)[j]? =some u→wr.cell? ⟨VB,0+j,none⟩=some u:=fun j u hj=>by
          have hj8:j<8:=(List.getElem?_eq_some_iff.1 hj).1
          rw [wordsL_get T j hj8] at hj
          have h:=HMA.o.cell j hj8
          rw [if_pos hj8] at h
          rw [Nat.zero_add,h,hj]
         obtain ⟨z,hz,hzr⟩:=HZN.o _ (HMX.o _ HBE.o)
         obtain ⟨RT,hRT⟩:=ex_eq (wordsL T).toArray
         rw [hRT] at hsT hs1
         have HRT:=hid hRT
         have HCS:=hid hcs
         have HZR:=hid hzr
         have HZS:=hid hz
         have HST:=hid hsT
         have HS1T:=hid hs1
         clear hcs hzr hz hRT hsT hs1
         go_wp2_with (first
          | (with_reducible refine wpList_load_cells rfl 305 (.tmp 11) rfl VB 0 rfl (wordsL T) HCS.o _ Tryz.underlying305 rfl rfl RT HRT.o ?_)
          | (refine wpList_store_row rfl 305 (.tmp 4) (.tmp 207) rfl (N+1) RT (by rfl) (by rfl) 305 z (by exact HZR.o) (by rw [HST.o];exact Tryz.size128) (by rw [HST.o,HZS.o]) HS1T.o ?_))
         refine bodyPost_ret (results_cell_row (p:=4) rfl _ _ (N+1) 305 RT (0,0) _ (by rfl) (setRow_heap _ _ _ _ _ _ HZR.o) Tryz.underlying305 rfl (by rw [HST.o];exact Tryz.size128)) rfl ⟨by rw [HT.o,HRT.o],?_⟩
         have a1:=HKN.o;have a2:=HMK.o;have a3:=HVM.o
         rw [HN.o]
         exact below_setRow (HXW.o.trans ((HMX.o _ HBE.o).mono (by omega))) (by omega) _
theorem init_row:(#[.int .u32 1779033703,.int .u32 3144134277,.int .u32 1013904242,.int .u32 2773480762,.int .u32 1359893119,.int .u32 2600822924,.int .u32 528734635,.int .u32 1541459225]:Array Value)=(wordsL (Sha.hs [] 0)).toArray:=rfl
theorem hs_zero (P:List Nat):Sha.hs P 0=Sha.hs [] 0:=rfl
theorem wp_app_four {o:Oper} {a:Act} {K:Act→World→Prop} {Q:Exit→Act→World→Prop} {w0:World} (s x:Operand) (ho:o.op= .call { callee:= .builtin .append,args:= #[s,x],argTypes:= #[52, 52] })
    (base:Nat) (v:Value) (L:Nat) (cur:List Nat) (hs:a.eval s=v) (hown:w0.ownsRow base 5 1 v L (bvals cur)) (hb:base≤w0.heap.size) (hL:L≤1000000000000)
    (E0 E1 E2 E3:Int) (bs:List Nat) (hE:bvals bs=[.int .u8 E0,.int .u8 E1,.int .u8 E2,.int .u8 E3]) (c:Nat) (hx:a.eval x= .slice (some ⟨w0.heap.size,0,none⟩) 4 c)
    (h: ∀v' w',w'.ownsRow base 5 1 v' (L+4) (bvals (cur++bs))→Below base w0 w'→K (a.put o.dst v') w'):o.wp Tryz.prog a (w0.alloc (.cells #[.int .u8 E0,.int .u8 E1,.int .u8 E2,.int .u8 E3] 5)) K Q:=by
 obtain ⟨i0,hi,hz0,hz1,hz2⟩:=info_parts Tryz.info5
 refine wp_append_own _ s x 52 ho base 5 i0 (.int .u8 0) 1 1 Tryz.underlying52 hi hz0 hz1 hz2 rfl (by decide) v L (bvals cur) hs (hown.alloc _) ⟨w0.heap.size,0,none⟩ 4 c [.int .u8 E0,.int .u8 E1,.int .u8 E2,.int .u8 E3] hx rfl (by intro j u hu;rw [add_none];exact cells_new_at _ _ _ j u hu) (by simp [Value.oneCell']) (by unfold maxLen;omega) (by omega) (by simp;omega) ?_
 intro v' w4 hown4 hgr4 _
 refine h v' w4 (by rw [bvals_append,hE];exact hown4) ?_
 exact ((Chg.alloc1 w0 _).trans (Chg.of_grown hgr4 (fun q _ e=>(hown.lt q e).1)):Chg (fun q _=>base≤q) w0 w4).below hb (fun q i hq h=>by omega)
theorem chg_setRow {M:Nat→Nat→Prop} (w:World) (g:Nat) (cs:Array Value) (hM: ∀i,M g i):Chg M w (w.setRow g cs):=
 ⟨rfl,rfl,rfl,by simp [World.setRow],fun k _ hn=>setRow_other w g k cs (fun e=>hn 0 (e ▸ hM 0)),fun k hn c e f hc=>
  ⟨c,(setRow_other w g k cs (fun e=>by obtain ⟨i,hi⟩:=hn;exact hi (e ▸ hM i))).trans hc,rfl,fun _ _=>rfl⟩⟩
theorem refSum_l (a:Option Addr) (cap:Nat) (xs:List Nat) (L:Nat) (hLe:xs.length=L) (hnil:a=none→cap=0) (hl:L≤100000000000) (w:World) (hB:BytesAt w a xs):
    Calls Tryz.prog 190 #[.slice a L cap] w fun e w'=> ∃u:ByteArray,e= .returned (.string u)∧nb u=Sha.sum xs∧Below w.heap.size w w':=by
 have HB:=hid hB
 have HNIL:=hid hnil
 have HLE:=hid hLe
 have HSUM:Hid (Sha.sum xs=Sha.digest (Sha.hs (Sha.pad xs) (Sha.pad xs).length)):=rfl
 have HP64:Hid ((Sha.pad xs).length % 64=0):=hid (Sha.pad_length xs)
 have HPL:Hid ((Sha.pad xs).length≤200000000000):=hid (by
  unfold Sha.pad Sha.zeros
  rw [List.length_append,List.length_cons,List.length_append,List.length_replicate,Sha.be8_length]
  omega)
 have HPB:Hid (∀x ∈ Sha.pad xs,x<256):=hid (fun x hx=>by
  unfold Sha.pad at hx
  rcases List.mem_append.1 hx with h | h
  ·exact hB.2.1 x h
  ·rcases List.mem_cons.1 h with h | h
   ·omega
   ·rcases List.mem_append.1 h with h | h
    ·rw [List.eq_of_mem_replicate h];decide
    ·exact Sha.be8_lt _ x h)
 have HPAD:=hid (fun w hB=>refPad_l a cap xs L hLe hnil hl w hB)
 obtain ⟨P,hP⟩:=ex_eq (Sha.pad xs)
 rw [hP] at HSUM HP64 HPL HPB HPAD
 obtain ⟨PL,hPL⟩:=ex_eq P.length
 rw [hPL] at HSUM HP64 HPL HPAD
 have HPLE:=hid hPL
 clear hB hnil hLe hP hPL
 go_enter Tryz.func190,Tryz.ntmps190
 go_upto_region 2 with fail
 rw [init_row,← hs_zero P]
 refine wp_over (fun W=>Hid (W.heap[w.heap.size]? =some (.cells (wordsL (Sha.hs P 0)).toArray 305 (0,0)))∧Hid (Below w.heap.size w W)∧Hid (W.heap.size=w.heap.size+1)) ⟨heap_alloc_new _ _,(Below.refl _ _).alloc (Nat.le_refl _) _,by show _=_;simp⟩ ?_
 rintro W ⟨HR0,HB0,HW0⟩
 obtain ⟨N,hN⟩:=ex_eq w.heap.size
 rw [hN] at HR0 HB0 HW0 ⊢
 have HN:=hid hN
 clear hN
 go_upto_region 3 with (first
  | (with_reducible refine (HPAD.o _ (HB.o.later (by rw [HN.o];exact HB0.o))).mono ?_
     rintro e w1 ⟨vp,cp0,rfl,hc,ho1,h1⟩
     rw [hc] at ho1
     rw [HW0.o] at ho1 h1
     have HO1:=hid ho1
     have H1:=hid h1
     clear hc ho1 h1))
 obtain ⟨ap,cp,rfl,hpl2,hpc,hPB,hpnil,hpblk⟩:=own_bytes HO1.o HPB.o (by rw [HPLE.o];have:=HPL.o;unfold maxLen;omega)
 rw [HPLE.o] at hpc
 have HPB1:=hid hPB
 have HPN:=hid hpnil
 have HPC:=hid hpc
 have HPK:=hid hpblk
 have HW1:Hid (N+1≤w1.heap.size):=hid (by have:=H1.o.size;have:=HW0.o;omega)
 have HR1:Hid (w1.heap[N]? =some (.cells (wordsL (Sha.hs P 0)).toArray 305 (0,0))):=hid ((H1.o.block N (Nat.lt_succ_self N)).trans HR0.o)
 have HNW:Hid (N≤w.heap.size):=hid (by have:=HN.o;omega)
 have HB1:Hid (Below N w w1):=hid (HB0.o.trans (H1.o.mono (Nat.le_succ N)))
 clear hpl2 hpc hPB hpnil hpblk HPAD HB HNIL HO1 HR0
 have HBYP:Hid (∀V,Chg (fun q i=>q=N) w1 V→BytesAt V ap P):=hid (fun V h=>bytesAt_chg HPB1.o h (fun ad e i hi=>by have:=(HPK.o ad e).1;omega))
 have hPLi:(PL:Int)≤200000000000:=by have:=HPL.o;omega
 go_wp2_with fail
 go_loopw [5] (fun x wr=> ∃i:Nat,x= .int .i64 (i:Int)∧i≤PL∧Hid (i % 64=0)∧Hid (wr.heap[N]? =some (.cells (wordsL (Sha.hs P i)).toArray 305 (0,0)))∧Hid (Chg (fun q i=>q=N) w1 wr)) (fun x _=>PL - (intOf x).toNat)
 case atStart=>exact ⟨0,rfl,Nat.zero_le _,rfl,HR1.o,Chg.refl _ _⟩
 case round=>
  obtain ⟨i,rfl,hi,HI64,HROW,HCH⟩:=hrel
  by_cases hlt:i<PL
  ·have hii:(i:Int)<(PL:Int):=by omega
   have hi64:i+64≤PL:=by have:=HI64.o;have:=HP64.o;omega
   have hsl:=slice_lh ap PL cp i (i+64) (by omega) (by have:=HPC.o;omega)
   rw [show ((i+64:Nat):Int)=(i:Int)+64 by omega,show i+64 - i=64 by omega] at hsl
   have HBL:Hid (BytesAt wr (subA ap i cp) ((P.take (i+64)).drop i)):=hid (bytesAt_sub (HBYP.o _ HCH.o) (by rw [HPLE.o];exact HPC.o) i (i+64))
   obtain ⟨A2,hA2⟩:=ex_eq (subA ap i cp)
   obtain ⟨C2,hC2⟩:=ex_eq (cp - i)
   rw [hA2] at HBL
   rw [hA2,hC2] at hsl
   have HC2:Hid (64≤C2):=hid (by have:=HPC.o;omega)
   have HXL:Hid (((P.take (i+64)).drop i).length=64):=hid (by rw [List.length_drop,List.length_take,HPLE.o];omega)
   have HBK:Hid (Sha.hs P (i+64)=Sha.comp (Sha.hs P i) ((P.take (i+64)).drop i)):=hid (Sha.hs_block P i HI64.o)
   obtain ⟨S,hS⟩:=ex_eq (Sha.hs P i)
   rw [hS] at HROW HBK
   obtain ⟨xb,hxb⟩:=ex_eq ((P.take (i+64)).drop i)
   rw [hxb] at HBL HXL HBK
   obtain ⟨RS,hRS⟩:=ex_eq (wordsL S).toArray
   have hss:=wordsL_size S
   rw [hRS] at HROW hss
   have HSS:=hid hss
   have HRS:=hid hRS
   clear hA2 hC2 hS hxb hRS hss hi64
   have hw64:IntKind.i64.wrap ((i:Int)+64)=(i:Int)+64:=by rw [IntKind.wrap_i64];omega
   go_upto_region 6 with fail
   refine Kit.wp_region_headsL (fun X=>X.heap[N]? =some (.cells RS 305 (0,0))) 7 [0,1,2,3,4,5] [6,7] (by kernel_rfl) (by kernel_rfl) (by kernel_rfl) (by kernel_rfl) HROW.o ?_
   refine Kit.heads_cons (by rfl) (.inl ⟨by rfl,fun w' hS=>load_cells_yield 305 (.tmp 3) rfl N 0 rfl RS.toList (fun j u hj=>by rw [Nat.zero_add,cell_of_row _ _ _ _ _ _ hS,← hj];simp) _ Tryz.underlying305 rfl (by rw [Array.length_toList,HSS.o];exact Tryz.size128) RS (by simp)⟩) ?_
   simp only [Act.put,List.setIfInBounds_toArray,List.set_cons_zero,List.set_cons_succ]
   iterate 5 (refine Kit.heads_cons (by rfl) (.inl ⟨by rfl,fun w' hS=>by (dsimp only at hS);go_simp;(try with_reducible rfl)⟩) ?_;simp only [Act.put,List.setIfInBounds_toArray,List.set_cons_zero,List.set_cons_succ])
   refine Kit.heads_nil ?_
   refine Kit.chainL_cons (by rfl) rfl fun K hK=> ?_
   go_simp
   go_at_call 249
   refine (refBlock_any S A2 C2 xb HXL.o HC2.o wr.drew HBL.o RS HRS.o).mono ?_
   rintro e w2 ⟨rfl,h2⟩
   have HW2:Hid (wr.heap.size≤w2.heap.size):=hid h2.size
   have hr2:w2.heap[N]? =some (.cells RS 305 (0,0)):=(h2.block N (gS HROW.o).1).trans HROW.o
   have HR2:=hid hr2
   have HC2':Hid (Chg (fun q i=>q=N) w1 w2):=hid (HCH.o.drew.trans (Chg.of_below h2))
   clear h2 hr2
   refine hK _ _ (fun _=>HR2.o) ?_
   clear hK K
   refine Kit.chainL_cons (by rfl) rfl fun K hK=>wp_store_row 305 (.tmp 3) (.tmp 23) rfl N (wordsL (Sha.comp S xb)).toArray (by rfl) (by rfl) 305 RS HR2.o (by rw [wordsL_size];exact Tryz.size128) (by rw [HSS.o,wordsL_size]) (wordsL_one _) (hK _ _ (fun h=>absurd rfl h) (Kit.chainL_done ?_))
   simp only [Act.put]
   go_wp2_with fail
   go_roundw
   case rel=>exact ⟨i+64,by go_num,by have:=HI64.o;have:=HP64.o;omega,by show _=_;have:=HI64.o;omega,by show _=_;rw [HBK.o];exact setRow_heap _ _ _ _ _ _ HR2.o,HC2'.o.trans (chg_setRow _ _ _ (fun _=>rfl))⟩
   case measure=>simp [intOf];omega
  ·have he:i=PL:=by omega
   subst he
   obtain ⟨S,hS⟩:=ex_eq (Sha.hs P i)
   rw [hS] at HROW HSUM
   have HDL:Hid ((Sha.digest S).length=32):=hid (Sha.digest_length S)
   rename World=>wa
   have HWA:Hid (N+1≤wa.heap.size):=hid (by have:=HCH.o.size;have:=HW1.o;omega)
   have HE:=hid (own_empty (w:=wa) (base:=N+1) HWA.o)
   have HBA:Hid (Below (N+1) wa (wa.alloc (.cells #[] 5))):=hid ((Below.refl _ _).alloc HWA.o _)
   have HBW:Hid (Below N w wa):=hid (HB1.o.trans (HCH.o.below (by have:=HW1.o;omega) (fun k i hk h=>by omega)))
   clear hS hi hlt HPLE HP64 HPL hPLi
   go_upto_region 9 with fail
   go_loopw [6,7] (fun x y wr=> ∃k:Nat,k≤8∧y= .int .i64 (k:Int)∧Hid (wr.ownsRow (N+1) 5 1 x (4*k) (bvals ((Sha.digest S).take (4*k))))∧Hid (Below (N+1) wa wr)) (fun _ y _=>8 - (intOf y).toNat)
   case atStart=>exact ⟨0,by omega,rfl,HE.o,HBA.o⟩
   case round=>
    obtain ⟨k,hk,rfl,HOW,HBE⟩:=hrel
    have HWR:Hid (N+1≤wr.heap.size):=hid (by have:=HBE.o.size;have:=HWA.o;omega)
    by_cases hlt:k<8
    ·have hki:(k:Int)<8:=by omega
     have hrow:=(HBE.o.block N (Nat.lt_succ_self N)).trans HROW.o
     have cs:=words_row hrow k hlt
     have HDT:=hid (digest_take S k hlt)
     obtain ⟨X0,hX⟩:=ex_eq (S.list.getD k 0)
     rw [hX] at cs HDT
     have HX:=hid hX
     obtain ⟨Q0,hq0⟩: ∃Q:Prop,Hid Q:=⟨True,trivial⟩
     have r9:=Sha.f_nonneg Q0
     clear hrow hX
     go_upto_region 11 with fail
     refine Kit.wp_region_plan (fun X=>X.cell? ⟨N,k,none⟩=some (.int .u32 (v X0))) [(true,0),(true,1),(true,2),(true,3),(true,4),(true,5),(true,6),(true,7),(true,8),(true,9),(true,10),(true,11),(true,12),(true,13),(true,14),(true,15),(true,16),(true,17),(true,18),(true,19),(false,20),(false,21),(false,22)] (by kernel_rfl) (by kernel_rfl) (by kernel_rfl) (by kernel_rfl) cs ?_
     iterate 20 (refine Kit.plan_head (by rfl) (.inl ⟨by rfl,fun w' hS=>by (dsimp only at hS);go_simp;(try with_reducible rfl)⟩) ?_;simp only [Act.put,List.setIfInBounds_toArray,List.set_cons_zero,List.set_cons_succ])
     have HCN:Hid (∀V,Below (N+1) wa V→V.cell? ⟨N,k,none⟩=some (.int .u32 (v X0))):=hid (fun V h=>by
      have h1:=words_row ((h.block N (Nat.lt_succ_self N)).trans HROW.o) k hlt
      rw [HX.o] at h1
      exact h1)
     refine Kit.plan_op (by rfl) rfl fun K hK=> ?_
     go_simp
     refine hK _ _ (HCN.o _ (HBE.o.drew.alloc HWR.o _)) ?_
     clear hK K
     refine Kit.plan_op (by rfl) rfl fun K hK=> ?_
     refine wp_app_four (w0:=wr.drew) _ _ rfl (N+1) _ (4*k) _ (by rfl) HOW.o.drew HWR.o (by omega) _ _ _ _ (Sha.bytes4 X0) (by rfl) 4 (by rfl) ?_
     intro v4 w4 ho4 hb4
     have HO4:=hid ho4
     have HB4:=hid (HBE.o.drew.trans hb4)
     clear ho4 hb4
     refine hK _ _ (HCN.o _ HB4.o) ?_
     clear hK K
     simp only [Act.put,List.setIfInBounds_toArray,List.set_cons_zero,List.set_cons_succ]
     refine Kit.plan_op (by rfl) rfl fun K hK=> ?_
     go_simp
     refine hK _ _ (HCN.o _ HB4.o) (Kit.plan_done ?_)
     clear hK K
     (try simp only [Act.put,List.setIfInBounds_toArray,List.set_cons_zero,List.set_cons_succ])
     go_wp2_with fail
     go_roundw
     case rel=>exact ⟨k+1,by omega,by go_num,by have h:=HO4.o;rw [← HDT.o] at h;exact h,HB4.o⟩
     case measure=>simp [intOf];omega
    ·have e8:k=8:=by omega
     subst e8
     have HD32:Hid ((Sha.digest S).take (4*8)=Sha.sum xs):=hid (by rw [List.take_of_length_le (by rw [HDL.o];exact Nat.le_refl _),HSUM.o])
     rw [HD32.o] at HOW
     obtain ⟨a9,cp9,hv9,hl9,_,hB9,_,_⟩:=own_bytes HOW.o (Sha.sum_lt xs) (by rw [Sha.sum_length];unfold maxLen;omega)
     subst hv9
     have hcv:=conv_bytes hB9 cp9
     rw [hl9] at hcv
     go_wp2_with fail
     go_ret
     exact ⟨_,rfl,nb_strB (Sha.sum_lt xs),by rw [HN.o];exact HBW.o.trans (HBE.o.mono (Nat.le_succ N))⟩
theorem conv_str_ex (W:World) (s:ByteArray) (hs:s.size≤maxLen): ∃cp W2,(convert 9 52 (.string s)).run Tryz.prog W= .ok (.slice (some ⟨W.heap.size,0,none⟩) s.size cp) W2∧s.size≤cp∧BytesAt W2 (some ⟨W.heap.size,0,none⟩) (nb s)∧Below W.heap.size W W2:=
 ⟨_,_,conv_str W s,grownCap_ge _ _ _ _,bytesWorld_bytes W s hs,bytesWorld_below W s⟩
theorem str_at (W:World) (s:ByteArray) (hs:s.size≤maxLen) {L:Nat} (hL:s.size=L): ∃cp W2,(convert 9 52 (.string s)).run Tryz.prog W= .ok (.slice (some ⟨W.heap.size,0,none⟩) L cp) W2∧L≤cp∧BytesAt W2 (some ⟨W.heap.size,0,none⟩) (nb s)∧Below W.heap.size W W2:=by
 subst hL
 exact conv_str_ex W s hs
theorem xor_snoc (ks:List Nat) (c i:Nat) (h:i<ks.length):(xorL ks c).take (i+1)=(xorL ks c).take i++[ks.getD i 0 ^^^ c]:=by
 rw [List.take_add_one,lE (by rw [xorL_length];exact h)]
 simp [xorL,lD,h]
theorem key64_in (ks:List Nat) (i:Nat) (h:i<ks.length):(key64 ks).getD i 0=ks.getD i 0:=getD_app_l _ _ _ h
theorem key64_out (ks:List Nat) (i:Nat) (h: ¬i<ks.length):(key64 ks).getD i 0=0:=by
 unfold key64
 rw [show i=ks.length+(i - ks.length) by omega,getD_app_r,lD,List.getElem?_replicate]
 split<;> rfl
theorem refPadH_any (key:ByteArray) (hk:key.size≤64) (c:Nat) (hc:c<256) (w:World):
    Calls Tryz.prog 299 #[.string key,.int .u8 (c:Int)] w fun e w'=> ∃v',e= .returned v'∧w'.ownsRow w.heap.size 5 1 v' 64 (bvals (xorL (key64 (nb key)) c))∧Below w.heap.size w w':=by
 have HKL:Hid ((key64 (nb key)).length=64):=hid (key64_length (by rw [nb_length];exact hk))
 have HIN:Hid (∀i,i<key.size→(key64 (nb key)).getD i 0=(nb key).getD i 0):=hid (fun i h=>key64_in _ i (by rw [nb_length];exact h))
 have HOUT:Hid (∀i,¬i<key.size→(key64 (nb key)).getD i 0=0):=hid (fun i h=>key64_out _ i (by rw [nb_length];exact h))
 have HKB:Hid (∀i,i<key.size→(nb key).getD i 0<256):=hid (fun i h=>nb_lt key _ (getD_mem _ _ _ (by rw [nb_length];exact h)))
 have HIX:=hid (fun i h=>str_idx key i h)
 obtain ⟨K,hK⟩:=ex_eq (key64 (nb key))
 rw [hK] at HKL HIN HOUT ⊢
 have HXS:=hid (fun i h=>xor_snoc K c i h)
 have HX8:=hid (fun x h=>bits_xor8 x c h hc)
 have hks:((key.size:Nat):Int)≤64:=by omega
 clear hK
 go_enter Tryz.func299,Tryz.ntmps299
 obtain ⟨N,hN⟩:=ex_eq w.heap.size
 have HN:=hid hN
 have HE:=hid (own_empty (w:=w) (base:=N) (by omega))
 have HB0:Hid (Below N w (w.alloc (.cells #[] 5))):=hid ((Below.refl _ _).alloc (by omega) _)
 clear hN
 go_upto_region 3 with fail
 go_loopw [5,6,7] (fun x y _ wr=> ∃i:Nat,i≤64∧y= .int .i64 (i:Int)∧Hid (wr.ownsRow N 5 1 x i (bvals ((xorL K c).take i)))∧Hid (Below N w wr)) (fun _ y _ _=>64 - (intOf y).toNat)
 case atStart=>exact ⟨0,by omega,rfl,HE.o,HB0.o⟩
 case round=>
  obtain ⟨i,hi,rfl,HOW,HBE⟩:=hrel
  have HWR:Hid (N≤wr.heap.size):=hid (by have:=HBE.o.size;have:=HN.o;omega)
  by_cases hlt:i<64
  ·have hii:(i:Int)<64:=by omega
   have HXS1:=hid (HXS.o i (by rw [HKL.o];exact hlt))
   by_cases hik:i<key.size
   ·have hiki:(i:Int)<((key.size:Nat):Int):=by omega
    have hix:=HIX.o i hik
    have hx8:=HX8.o _ (HKB.o i hik)
    rw [HIN.o i hik] at HXS1
    obtain ⟨X,hX⟩:=ex_eq ((nb key).getD i 0)
    rw [hX] at hix hx8 HXS1
    clear hX
    go_wp2_with (first
     | (at_builtin
        refine app_byte rfl _ _ rfl N _ i _ (by rfl) HOW.o HWR.o (by omega) _ (X ^^^ c) (by rfl) 1 (by rfl) ?_
        intro v4 w4 ho4 hb4
        have HO4:=hid ho4
        have HB4:=hid (HBE.o.trans hb4)
        clear ho4 hb4))
    go_roundw
    case rel=>exact ⟨i+1,by omega,by go_num,by have h:=HO4.o;rw [← HXS1.o] at h;exact h,HB4.o⟩
    case measure=>simp [intOf];omega
   ·have hiki: ¬(i:Int)<((key.size:Nat):Int):=by omega
    rw [HOUT.o i hik,Nat.zero_xor] at HXS1
    have hx8:bits .xor .u8 0 (c:Int)=(c:Int):=by
     have h:=HX8.o 0 (by decide)
     rw [Nat.zero_xor] at h
     exact h
    go_wp2_with (first
     | (at_builtin
        refine app_byte rfl _ _ rfl N _ i _ (by rfl) HOW.o HWR.o (by omega) _ c (by rfl) 1 (by rfl) ?_
        intro v4 w4 ho4 hb4
        have HO4:=hid ho4
        have HB4:=hid (HBE.o.trans hb4)
        clear ho4 hb4))
    go_roundw
    case rel=>exact ⟨i+1,by omega,by go_num,by have h:=HO4.o;rw [← HXS1.o] at h;exact h,HB4.o⟩
    case measure=>simp [intOf];omega
  ·have e:i=64:=by omega
   subst e
   have HFU:Hid ((xorL K c).take 64=xorL K c):=hid (List.take_of_length_le (by rw [xorL_length,HKL.o];exact Nat.le_refl _))
   go_wp2_with fail
   go_ret
   exact ⟨_,rfl,by have h:=HOW.o;rw [HFU.o] at h;rw [HN.o];exact h,by rw [HN.o];exact HBE.o⟩
theorem refTag_l (key:ByteArray) (hk:key.size≤64) (a:Option Addr) (cap:Nat) (xs:List Nat) (L:Nat) (hLe:xs.length=L) (hnil:a=none→cap=0) (hl:L≤1000000) (w:World) (hB:BytesAt w a xs) (T:List Nat) (hT:tag (nb key) xs=T):
    Calls Tryz.prog 255 #[.string key,.slice a L cap] w fun e w'=> ∃u:ByteArray,e= .returned (.string u)∧nb u=T∧Below w.heap.size w w':=by
 have HB:=hid hB
 have HNIL:=hid hnil
 have HLE:=hid hLe
 have hki:((key.size:Nat):Int)≤64:=by omega
 have HP:=hid (fun c hc w=>refPadH_any key hk c hc w)
 have H54:Hid (bvals (xorL (key64 (nb key)) 54++xs)=bvals (inner (nb key) xs)):=rfl
 have HT:Hid (Sha.sum (xorL (key64 (nb key)) 92++Sha.sum (inner (nb key) xs))=T):=hT
 have HKL:Hid ((key64 (nb key)).length=64):=hid (key64_length (by rw [nb_length];exact hk))
 have HKB:Hid (∀c,c<256→ ∀x ∈ xorL (key64 (nb key)) c,x<256):=hid (fun c hc=>xorL_lt _ c (key64_lt (nb_lt key)) hc)
 have HIL:Hid ((inner (nb key) xs).length=64+L):=hid (by unfold inner;rw [List.length_append,xorL_length,HKL.o,hLe])
 have HIB:Hid (∀x ∈ inner (nb key) xs,x<256):=hid (fun x hx=>by
  rcases List.mem_append.1 hx with h | h
  ·exact HKB.o 54 (by decide) x h
  ·exact hB.2.1 x h)
 obtain ⟨I,hI⟩:=ex_eq (inner (nb key) xs)
 rw [hI] at H54 HT HIL HIB
 obtain ⟨K,hK⟩:=ex_eq (key64 (nb key))
 rw [hK] at HP H54 HT HKL HKB
 clear hB hnil hLe hT hI hK
 go_enter Tryz.func255,Tryz.ntmps255
 obtain ⟨N,hN⟩:=ex_eq w.heap.size
 have HN:=hid hN
 have HNW:Hid (N≤w.heap.size):=hid (by omega)
 rw [hN]
 clear hN
 go_upto_region 4 with (first
  | (go_at_call 299
     (refine (HP.o 54 (by decide) _).mono ?_)
     rintro e w1 ⟨v1,rfl,ho1,h1⟩
     rw [HN.o] at ho1 h1
     have HO1:=hid ho1
     have H1:=hid h1
     clear ho1 h1)
  | (at_builtin
     refine app_bytes rfl _ _ rfl N _ 64 _ (by rfl) HO1.o (by have:=H1.o.size;have:=HNW.o;omega) (by omega) a L cap xs HLE.o (by omega) (by rfl) (HB.o.later (by rw [HN.o];exact H1.o)) HNIL.o ?_
     intro v2 w2 ho2 hb2
     rw [H54.o] at ho2
     obtain ⟨a2,cp2,rfl,hl2,hc2,hB2,hn2,hk2⟩:=own_bytes ho2 HIB.o (by rw [HIL.o];unfold maxLen;omega)
     have HC2:=hid hc2
     have HB2:=hid hB2
     have HN2:=hid hn2
     have H2:=hid (H1.o.trans hb2)
     clear ho2 hl2 hc2 hB2 hn2 hk2 hb2)
  | (with_reducible refine (refSum_l a2 cp2 I (64+L) HIL.o HN2.o (by omega) w2 HB2.o).mono ?_
     rintro e w3 ⟨u3,rfl,hu3,h3⟩
     have HU3:=hid hu3
     have H3:Hid (Below N w w3):=hid (H2.o.trans (h3.mono (by have:=H2.o.size;have:=HNW.o;omega)))
     clear hu3 h3))
 have hu32:u3.size=32:=nb_size HU3.o (Sha.sum_length _)
 go_wp2_with (first
  | (go_at_call 299
     (refine (HP.o 92 (by decide) _).mono ?_)
     rintro e w4 ⟨v4,rfl,ho4,h4⟩
     have H4:Hid (Below N w w4):=hid (H3.o.trans (h4.mono (by have:=H3.o.size;have:=HNW.o;omega)))
     obtain ⟨cp5,w5,hcv5,hle5,hB5,h5⟩:=str_at w4 u3 (by rw [hu32];unfold maxLen;omega) hu32
     have HO5:=hid (own_later ho4 h5)
     have HB5:=hid hB5
     have HS45:Hid (w3.heap.size≤w5.heap.size):=hid (by have:=h4.size;have:=h5.size;omega)
     have H5:Hid (Below N w w5):=hid (H4.o.trans (h5.mono (by have:=H4.o.size;have:=HNW.o;omega)))
     clear ho4 h4 hB5 h5 hle5)
  | (at_builtin
     refine app_bytes rfl _ _ rfl w3.heap.size _ 64 _ (by rfl) HO5.o HS45.o (by omega) (some ⟨w4.heap.size,0,none⟩) 32 cp5 (nb u3) (by rw [nb_length];exact hu32) (by omega) (by rfl) HB5.o (fun e=>by cases e) ?_
     intro v6 w6 ho6 hb6
     have H6:Hid (Below N w w6):=hid (H5.o.trans (hb6.mono (by have:=H3.o.size;have:=HNW.o;omega)))
     obtain ⟨a6,cp6,rfl,hl6,hc6,hB6,hn6,hk6⟩:=own_bytes ho6 (by
      intro x hx
      rcases List.mem_append.1 hx with h | h
      ·exact HKB.o 92 (by decide) x h
      ·exact nb_lt u3 x h) (by rw [List.length_append,xorL_length,HKL.o,nb_length,hu32];unfold maxLen;omega)
     have HL6:=hid hl6
     have HB6:=hid hB6
     have HN6:=hid hn6
     clear ho6 hb6 hl6 hc6 hB6 hn6 hk6)
  | (go_at_call 190
     (refine (refSum_l a6 cp6 (xorL K 92++nb u3) _ HL6.o HN6.o (by omega) w6 HB6.o).mono ?_)
     rintro e w7 ⟨u7,rfl,hu7,h7⟩
     have HU7:=hid hu7
     have H7:Hid (Below N w w7):=hid (H6.o.trans (h7.mono (by have:=H6.o.size;have:=HNW.o;omega)))
     clear hu7 h7))
 go_ret
 exact ⟨u7,rfl,by rw [HU7.o,HU3.o,HT.o],by exact H7.o⟩
theorem bvals_get (bs:List Nat) (j:Nat) (u:Value) (h:(bvals bs)[j]? =some u):j<bs.length∧u= .int .u8 ((bs.getD j 0:Nat):Int):=by
 unfold bvals at h
 rw [List.getElem?_map] at h
 cases hj:bs[j]? with
 | none=>rw [hj] at h;simp at h
 | some x=>
   rw [hj] at h
   simp only [Option.map_some,Option.some.injEq] at h
   have hl:=(List.getElem?_eq_some_iff.1 hj).1
   exact ⟨hl,by rw [← h,lD,hj];rfl⟩
theorem bytes_cells {w:World} {ad:Addr} {bs:List Nat} (h:BytesAt w (some ad) bs): ∀j u,(bvals bs)[j]? =some u→w.cell? (ad.add j)=some u:=by
 intro j u hu
 obtain ⟨hl,rfl⟩:=bvals_get bs j u hu
 obtain ⟨b,o,e,hc⟩:=h.some (by omega)
 cases e
 rw [add_none]
 exact hc j hl
section
variable {ops:Array Oper} {rest:List Oper} {o:Oper} {a:Act} {Q:Exit→Act→World→Prop}
theorem app_full {w0:World} (hgd:o.guard=none) (s x:Operand) (ho:o.op= .call { callee:= .builtin .append,args:= #[s,x],argTypes:= #[52, 52] })
    (lb n cap:Nat) (cur:List Nat) (hn:cur.length=n) (hs:a.eval s= .slice (some ⟨lb,0,none⟩) n cap) (hcur:BytesAt w0 (some ⟨lb,0,none⟩) cur)
    (ao:Option Addr) (m c:Nat) (xs:List Nat) (hm:xs.length=m) (hx:a.eval x= .slice ao m c) (hB:BytesAt w0 ao xs) (hm0:0<m) (hfull:cap<n+m) (hl:n+m≤1000000)
    (h: ∀v' w',w'.ownsRow w0.heap.size 5 1 v' (n+m) (bvals (cur++xs))→Below w0.heap.size w0 w'→wpList Tryz.prog ops Q rest (a.put o.dst v') w'):wpList Tryz.prog ops Q (o::rest) a w0:=by
 obtain ⟨i0,hi,hz0,hz1,hz2⟩:=info_parts Tryz.info5
 obtain ⟨b,off,rfl,hc⟩:=hB.some (by omega)
 refine wpList_append_grows w0 hgd s x 52 ho 5 i0 (.int .u8 0) 1 1 Tryz.underlying52 hi hz0 hz1 hz2 rfl (by decide) (some ⟨lb,0,none⟩) n cap (bvals cur) hs (fun e=>by cases e) (by rw [bvals_length,hn,Nat.mul_one]) (fun b' e j u hu=>by cases e;exact bytes_cells hcur j u hu) ⟨b,off,none⟩ m c (bvals xs) hx (by rw [bvals_length,hm,Nat.mul_one]) (bytes_cells hB) (bvals_one _) hfull (by unfold maxLen;omega) (by omega) ?_
 intro v' w' hown hgr
 refine h v' w' (by rw [bvals_append];exact hown) ?_
 exact (Chg.of_grown (M:=fun _ _=>False) hgr (fun q _ e=>by cases e)).below (Nat.le_refl _) (fun _ _ _ h=>h)
end
theorem refSecret_ok (seed:ByteArray) (hs:seed.size=32) (c:Nat) (hc:c≤999) (w:World):
    Calls Tryz.prog 297 #[.string seed,.int .i64 (c:Int)] w fun e w'=> ∃u:ByteArray,e= .returned (.string u)∧nb u=secret (nb seed) c∧Below w.heap.size w w':=by
 have HK:Hid (seed.size≤64):=hid (by omega)
 have HNM:=hid (fun w=>refNumber_any c (by omega) w)
 have HNL:Hid ((num c).length≤2):=hid (num_len (by omega))
 have HN0:Hid (0<(num c).length):=hid (by
  by_cases h:c<128
  ·rw [num_small h];exact Nat.zero_lt_one
  ·rw [num_big (by omega)];exact Nat.succ_pos _)
 have HNB:=hid (num_lt c)
 have HDB:=hid (secretIn_lt c)
 have HDL:=hid (secretIn_len hc)
 have HDE:Hid (secretB++num c=secretIn c):=rfl
 have HTE:Hid (tag (nb seed) (secretIn c)=secret (nb seed) c):=rfl
 obtain ⟨T,hT⟩:=ex_eq (secret (nb seed) c)
 obtain ⟨DS,hDS⟩:=ex_eq (secretIn c)
 obtain ⟨NM,hNM⟩:=ex_eq (num c)
 rw [hDS,hT] at HTE
 rw [hDS,hNM] at HDE
 rw [hDS] at HDB HDL
 rw [hNM] at HNM HNL HN0 HNB
 rw [hT]
 clear hs hT hDS hNM
 have hcl:=conv_lit w #[.int .u8 115,.int .u8 101,.int .u8 99,.int .u8 114,.int .u8 101,.int .u8 116] 6 6
 go_enter Tryz.func297,Tryz.ntmps297
 have HLA:Hid (∀fr,BytesAt (w.alloc (.cells #[.int .u8 115,.int .u8 101,.int .u8 99,.int .u8 114,.int .u8 101,.int .u8 116] 5 fr)) (some ⟨w.heap.size,0,none⟩) secretB):=hid (fun fr=>lit_alloc rfl (by decide) (by decide))
 go_wp2_with (first
  | (go_at_call 213
     (refine (HNM.o _).mono ?_)
     rintro e w3 ⟨v3,n3,rfl,hn3,h3,h4⟩
     have HB4:Hid (BytesAt w3 (some ⟨w.heap.size,0,none⟩) secretB):=hid ((HLA.o _).later h4)
     have H4:Hid (Below w.heap.size w w3):=hid (((Below.refl _ w).alloc (Nat.le_refl _) _).trans (h4.mono (by simp)))
     obtain ⟨a3,cp3,rfl,hl3,hc3,hB3,hnil3,hlt3⟩:=own_bytes h3 HNB.o (by have:=HNL.o;unfold maxLen;omega)
     have HL3:=hid hl3
     have HB3:=hid hB3
     clear hn3 h3 h4 hl3 hc3 hB3 hnil3 hlt3)
  | (at_builtin
     refine app_full rfl _ _ rfl w.heap.size 6 6 secretB rfl (by rfl) HB4.o a3 n3 cp3 NM HL3.o (by rfl) HB3.o (by have:=HN0.o;have:=HL3.o;omega) (by have:=HN0.o;have:=HL3.o;omega) (by have:=HNL.o;have:=HL3.o;omega) ?_
     intro v5 w5 ho5 hb5
     rw [HDE.o] at ho5
     obtain ⟨a5,cp5,rfl,hl5,hc5,hB5,hnil5,hlt5⟩:=own_bytes ho5 HDB.o (by have:=HDL.o;unfold maxLen;omega)
     have HL5:=hid hl5
     have HB5:=hid hB5
     have HN5:=hid hnil5
     have H5:Hid (Below w.heap.size w w5):=hid (H4.o.trans (hb5.mono H4.o.size))
     clear ho5 hb5 hl5 hc5 hB5 hnil5 hlt5)
  | (go_at_call 255
     (refine (refTag_l seed HK.o a5 cp5 DS _ HL5.o HN5.o (by have:=HDL.o;have:=HL5.o;omega) w5 HB5.o T HTE.o).mono ?_)
     rintro e w6 ⟨u,rfl,hu,h6⟩
     have HU:=hid hu
     have H6:=hid (H5.o.trans (h6.mono H5.o.size))
     clear hu h6))
 go_ret
 exact ⟨u,rfl,HU.o,H6.o⟩
theorem conv_l {w:World} {a:Option Addr} {bs:List Nat} (h:BytesAt w a bs) {n:Nat} (hl:bs.length=n) (cap:Nat) {s:ByteArray} (hs:strB bs=s):(convert 52 9 (.slice a n cap)).run Tryz.prog w= .ok (.string s) w:=by
 subst hl hs
 exact conv_bytes h cap
theorem num_pos (n:Nat):0<(num n).length:=by
 by_cases h:n<128
 ·rw [num_small h];exact Nat.zero_lt_one
 ·rw [num_big (by omega)];exact Nat.succ_pos _
theorem chain_lit:nb { data:= #[99,104,97,105,110] }=chainB:=rfl
theorem refInput_ok (i:Nat) (hi:i≤999) (j:Nat) (hj:j≤255) (x:ByteArray) (hx:x.size≤1000000) (w:World) (T:List Nat) (hT:input i j (nb x)=T):
    Calls Tryz.prog 298 #[.int .i64 (i:Int),.int .i64 (j:Int),.string x] w fun e w'=> ∃u:ByteArray,e= .returned (.string u)∧nb u=T∧Below w.heap.size w w':=by
 have HNI:=hid (fun w=>refNumber_any i (by omega) w)
 have HNJ:=hid (fun w=>refNumber_any j (by omega) w)
 have HLI:Hid ((num i).length≤2):=hid (num_len (by omega))
 have HLJ:Hid ((num j).length≤2):=hid (num_len (by omega))
 have HBI:=hid (num_lt i)
 have HBJ:=hid (num_lt j)
 have HT:Hid (chainB++(num i++(num j++nb x))=T):=hT
 obtain ⟨NI,hNI⟩:=ex_eq (num i)
 obtain ⟨NJ,hNJ⟩:=ex_eq (num j)
 rw [hNI] at HNI HLI HBI HT
 rw [hNJ] at HNJ HLJ HBJ HT
 obtain ⟨sI,hsI⟩:=ex_eq (strB NI)
 obtain ⟨sJ,hsJ⟩:=ex_eq (strB NJ)
 have HSI:Hid (nb sI=NI):=hid (by rw [← hsI];exact nb_strB HBI.o)
 have HSJ:Hid (nb sJ=NJ):=hid (by rw [← hsJ];exact nb_strB HBJ.o)
 have hzI:sI.size≤2:=by rw [← nb_length,HSI.o];exact HLI.o
 have hzJ:sJ.size≤2:=by rw [← nb_length,HSJ.o];exact HLJ.o
 have HCI:Hid (strB NI=sI):=hid hsI
 have HCJ:Hid (strB NJ=sJ):=hid hsJ
 obtain ⟨s4,hs4⟩:=ex_eq ({ data:= #[99,104,97,105,110] }++sI)
 have HS4:Hid (nb s4=chainB++NI):=hid (by rw [← hs4,nb_app,HSI.o,chain_lit])
 have hz4:s4.size≤7:=by rw [← nb_length,HS4.o,List.length_append,show chainB.length=5 from rfl];have:=HLI.o;omega
 obtain ⟨s9,hs9⟩:=ex_eq (s4++sJ)
 have HS9:Hid (nb s9=chainB++NI++NJ):=hid (by rw [← hs9,nb_app,HSJ.o,HS4.o])
 have hz9:s9.size≤9:=by rw [← nb_length,HS9.o,List.length_append,← HS4.o,nb_length];have:=HLJ.o;omega
 have g4: ¬9223372036854775807<5+sI.size:=by omega
 have g9: ¬9223372036854775807<s4.size+sJ.size:=by omega
 have g11: ¬9223372036854775807<s9.size+x.size:=by omega
 clear hT hNI hNJ hsI hsJ
 go_enter Tryz.func298,Tryz.ntmps298
 go_upto_region 1 with fail
 have hwi:IntKind.u64.wrap (i:Int)=(i:Int):=by rw [IntKind.wrap_u64];omega
 have hwj:IntKind.u64.wrap (j:Int)=(j:Int):=by rw [IntKind.wrap_u64];omega
 refine Kit.wp_region_splan (fun V=>True) [(true,0),(true,1),(true,5),(true,6),(true,10),(false,2),(true,3),(true,4),(false,7),(true,8),(true,9),(true,11),(true,12)] (by kernel_rfl) (by kernel_rfl) (by kernel_rfl) (by kernel_rfl) trivial ?_
 iterate 5 (refine Kit.splan_head (by rfl) (.inl ⟨by rfl,fun w' hS=>by (dsimp only at hS);go_simp;(try with_reducible rfl)⟩) ?_;simp only [Act.put,List.setIfInBounds_toArray,List.set_cons_zero,List.set_cons_succ])
 refine Kit.splan_op (by rfl) (by rfl) fun K hK=> ?_
 go_simp
 go_at_call 213
 refine (HNI.o _).mono ?_
 rintro e w2 ⟨v2,n2,rfl,hn2,ho2,h2⟩
 obtain ⟨a2,cp2,rfl,hl2,hc2,hB2,hnil2,hlt2⟩:=own_bytes ho2 HBI.o (by have:=HLI.o;unfold maxLen;omega)
 have HL2:=hid hl2
 have HB2:=hid hB2
 have H2:Hid (Below w.heap.size w w2):=hid ((Below.refl _ w).drew.trans h2)
 clear hn2 ho2 h2 hl2 hc2 hB2 hnil2 hlt2
 refine hK (fun V=>BytesAt V a2 NI) (fun V _=>trivial) _ _ HB2.o ?_
 clear hK K
 refine Kit.splan_head (by rfl) (.inl ⟨by rfl,fun w' hS=>by (dsimp only at hS);have hc:=conv_l hS HL2.o cp2 HCI.o;go_simp;(try with_reducible rfl)⟩) ?_
 simp only [Act.put,List.setIfInBounds_toArray,List.set_cons_zero,List.set_cons_succ]
 refine Kit.splan_head (by rfl) (.inl ⟨by rfl,fun w' hS=>by (dsimp only at hS);go_simp;(try with_reducible rfl)⟩) ?_
 simp only [Act.put,List.setIfInBounds_toArray,List.set_cons_zero,List.set_cons_succ]

 refine Kit.splan_op (by rfl) (by rfl) fun K hK=> ?_
 go_simp
 go_at_call 213
 refine (HNJ.o _).mono ?_
 rintro e w3 ⟨v3,n3,rfl,hn3,ho3,h3⟩
 obtain ⟨a3,cp3,rfl,hl3,hc3,hB3,hnil3,hlt3⟩:=own_bytes ho3 HBJ.o (by have:=HLJ.o;unfold maxLen;omega)
 have HL3:=hid hl3
 have HB3:=hid hB3
 have HB23:=hid (HB2.o.later h3)
 have H3:Hid (Below w.heap.size w w3):=hid (H2.o.trans (h3.mono H2.o.size))
 clear hn3 ho3 h3 hl3 hc3 hB3 hnil3 hlt3
 refine hK (fun V=>BytesAt V a2 NI∧BytesAt V a3 NJ) (fun V h=>h.1) _ _ ⟨HB23.o,HB3.o⟩ ?_
 clear hK K
 refine Kit.splan_head (by rfl) (.inl ⟨by rfl,fun w' hS=>by (dsimp only at hS);have hc:=conv_l hS.2 HL3.o cp3 HCJ.o;go_simp;(try with_reducible rfl)⟩) ?_
 simp only [Act.put,List.setIfInBounds_toArray,List.set_cons_zero,List.set_cons_succ]
 refine Kit.splan_head (by rfl) (.inl ⟨by rfl,fun w' hS=>by (dsimp only at hS);go_simp;(try with_reducible rfl)⟩) ?_
 simp only [Act.put,List.setIfInBounds_toArray,List.set_cons_zero,List.set_cons_succ]

 refine Kit.splan_head (by rfl) (.inl ⟨by rfl,fun w' hS=>by (dsimp only at hS);go_simp;(try with_reducible rfl)⟩) ?_
 simp only [Act.put,List.setIfInBounds_toArray,List.set_cons_zero,List.set_cons_succ]
 refine Kit.splan_head (by rfl) (.inl ⟨by rfl,fun w' hS=>by (dsimp only at hS);go_simp;(try with_reducible rfl)⟩) ?_
 simp only [Act.put,List.setIfInBounds_toArray,List.set_cons_zero,List.set_cons_succ]
 refine Kit.splan_done ?_
 (try simp only [Act.put,List.setIfInBounds_toArray,List.set_cons_zero,List.set_cons_succ])
 go_wp2_with fail
 go_ret
 refine ⟨_,rfl,?_,H3.o⟩
 rw [← HT.o,nb_app,HS9.o]
 simp only [List.append_assoc]
theorem input_len2 (i j:Nat) (hi:i≤999) (hj:j≤255) (x:List Nat):(input i j x).length≤9+x.length:=by
 unfold input
 rw [List.length_append,List.length_append,List.length_append]
 have:=num_len (n:=i) (by omega)
 have:=num_len (n:=j) (by omega)
 have:chainB.length=5:=rfl
 omega
theorem refChain_ok (i j m:Nat) (hi:i≤999) (hjm:j≤m) (hm:m≤256) (x:ByteArray) (hx:x.size≤1000) (w:World) (T:List Nat) (hT:chain i j (m - j) (nb x)=T):
    Calls Tryz.prog 254 #[.int .i64 (i:Int),.int .i64 (j:Int),.int .i64 (m:Int),.string x] w fun e w'=> ∃u:ByteArray,e= .returned (.string u)∧nb u=T∧Below w.heap.size w w':=by
 have HX:=hid hx
 have HJM:=hid hjm
 have HT:=hid hT
 have HIN:=hid (fun k hk u hu w=>refInput_ok i hi k hk u hu w (input i k (nb u)) rfl)
 have HIL:=hid (fun k hk u=>input_len2 i k hi hk u)
 clear hx hT
 go_enter Tryz.func254,Tryz.ntmps254
 go_upto_region 2 with fail
 go_loopw [3,9] (fun sx sk wr=> ∃(k:Nat) (u:ByteArray),j≤k∧k≤m∧sk= .int .i64 (k:Int)∧sx= .string u∧Hid (nb u=chain i j (k - j) (nb x))∧Hid (u.size≤1000)∧Hid (Below w.heap.size w wr)) (fun _ sk _=>m - (intOf sk).toNat)
 case atStart=>exact ⟨j,x,Nat.le_refl _,HJM.o,rfl,rfl,by show _=_;rw [Nat.sub_self];rfl,HX.o,Below.refl _ _⟩
 case round=>
  obtain ⟨k,u,hjk,hkm,rfl,rfl,HU,HUS,HBE⟩:=hrel
  by_cases hlt:k<m
  ·have hki:(k:Int)<(m:Int):=by omega
   have HCH:Hid (chain i j (k+1 - j) (nb x)=Sha.sum (input i k (nb u))):=hid (by
    rw [show k+1 - j=(k - j)+1 by omega,chain_succ,show j+(k - j)=k by omega,HU.o])
   have HLE:Hid ((input i k (nb u)).length≤1009):=hid (by have:=HIL.o k (by omega) (nb u);rw [nb_length] at this;have:=HUS.o;omega)
   have HIK:=hid (fun w=>HIN.o k (by omega) u (by have:=HUS.o;omega) w)
   obtain ⟨I,hI⟩:=ex_eq (input i k (nb u))
   rw [hI] at HCH HLE HIK
   clear hI
   go_upto_region 4 with fail
   go_upto_region 3 with (first
    | (go_at_call 298
       (refine (HIK.o _).mono ?_)
       rintro e w2 ⟨u2,rfl,hu2,h2⟩
       have HU2:=hid hu2
       have H2:Hid (Below w.heap.size w w2):=hid (HBE.o.trans (h2.mono HBE.o.size))
       obtain ⟨L2,hL2⟩:=ex_eq u2.size
       have HL2:=hid hL2
       have HL2b:Hid (L2≤1009):=hid (by rw [← hL2,← nb_length,hu2];exact HLE.o)
       obtain ⟨cp3,w3,hcv3,hle3,hB3,h3⟩:=str_at w2 u2 (by have:=HL2b.o;unfold maxLen;omega) hL2
       have HB3:=hid hB3
       have H3:Hid (Below w.heap.size w w3):=hid (H2.o.trans (h3.mono H2.o.size))
       clear hu2 h2 hL2 hle3 hB3 h3)
    | (go_at_call 190
       (refine (refSum_l (some ⟨w2.heap.size,0,none⟩) cp3 (nb u2) L2 (by rw [nb_length];exact HL2.o) (fun e=>by cases e) (by have:=HL2b.o;omega) w3 HB3.o).mono ?_)
       rintro e w4 ⟨u4,rfl,hu4,h4⟩
       have HU4:Hid (nb u4=Sha.sum I):=hid (by rw [hu4,HU2.o])
       have H4:Hid (Below w.heap.size w w4):=hid (H3.o.trans (h4.mono H3.o.size))
       clear hu4 h4))
   go_wp2_with fail
   go_roundw
   case rel=>exact ⟨k+1,u4,by omega,by omega,by go_num,rfl,by show _=_;rw [HU4.o,HCH.o],by show _≤_;rw [← nb_length,HU4.o,Sha.sum_length];omega,H4.o⟩
   case measure=>simp [intOf];omega
  ·have hke:k=m:=by omega
   have hki: ¬(k:Int)<(m:Int):=by omega
   have HKE:=hid hke
   clear hke
   go_wp2_with fail
   go_ret
   exact ⟨u,rfl,by rw [HU.o,HKE.o,HT.o],HBE.o⟩
theorem refStart_ok (b n:Nat) (hB:Bits b) (hn:0<n) (hn2:n≤32) (seed:ByteArray) (hs:seed.size=32) (w:World):
    Calls Tryz.prog 253 #[.agg #[.int .i64 (b:Int),.int .i64 (n:Int)],.string seed] w fun e w'=> ∃(x:Value) (L:Nat) (vs:List ByteArray),e= .returned x∧L=count b n∧vs.map nb=starts (nb seed) L∧w'.ownsRow w.heap.size 9 1 x L (strV vs)∧Below w.heap.size w w':=by
 have HMA:=hid (fun w=>main_any b n hB hn2 w)
 have HCK:=hid (fun w=>check_any b n hB hn hn2 w)
 have HKM:Hid (count b n=8*n/b+cnt b (great b n)):=rfl
 have HSE:=hid (fun c hc w=>refSecret_ok seed hs c hc w)
 have hC:=count_le hB hn2
 obtain ⟨C,hCe⟩:=ex_eq (count b n)
 obtain ⟨m0,hme⟩:=ex_eq (8*n/b)
 obtain ⟨k0,hke⟩:=ex_eq (cnt b (great b n))
 rw [hCe,hme,hke] at HKM
 rw [hCe] at hC ⊢
 have HME:=hid hme
 have HKE:=hid hke
 have hm9:m0≤269:=by have:=HKM.o;omega
 have hk9:k0≤269:=by have:=HKM.o;omega
 clear hB hn hn2 hs hCe hme hke
 go_enter Tryz.func253,Tryz.ntmps253
 go_upto_region 1 with fail
 refine wp_over (fun W=>Hid (W.heap[w.heap.size]? =some (.cells #[.int .i64 (b:Int),.int .i64 (n:Int)] 261 (0,0)))∧Hid (Below w.heap.size w W)) ⟨heap_alloc_new _ _,(Below.refl _ _).alloc (Nat.le_refl _) _⟩ ?_
 rintro W ⟨HG,HB⟩
 obtain ⟨N,hN⟩:=ex_eq w.heap.size
 rw [hN] at HG HB ⊢
 have HN:=hid hN
 clear hN
 have HWN:Hid (N+1≤W.heap.size):=hid (gS HG.o).1
 have HCE:Hid (∀V,Below (N+1) W V→V.cell? ⟨N,0,none⟩=some (.int .i64 (b:Int))∧V.cell? ⟨N,1,none⟩=some (.int .i64 (n:Int))):=hid (fun V h=>by
  have hg:=(h.block N (Nat.lt_succ_self _)).trans HG.o
  exact ⟨cr hg,cr hg⟩)
 have HST:Hid (∀V V',Below (N+1) W V→Below V.heap.size V V'→Below (N+1) W V'):=hid (fun V V' h h'=>h.trans (h'.mono (by have:=h.size;have:=HWN.o;omega)))
 go_upto_region 3 with fail
 go_loopw [5,6] (fun x y wr=> ∃(k:Nat) (vs:List ByteArray),k≤C∧y= .int .i64 (k:Int)∧vs.length=k∧Hid (vs.map nb=(List.range k).map (secret (nb seed)))∧Hid (wr.ownsRow (N+1) 9 1 x k (strV vs))∧Hid (Below (N+1) W wr)) (fun _ y _=>C - (intOf y).toNat)
 case atStart=>exact ⟨0,[],by omega,rfl,rfl,rfl,own_nil,Below.refl _ _⟩
 case round=>
  obtain ⟨k,vs,hk,rfl,hvl,HVS,HOW,HBE⟩:=hrel
  have HVL:=hid hvl
  clear hvl
  have hwS:IntKind.i64.wrap ((m0:Int)+(k0:Int))=(m0:Int)+(k0:Int):=by rw [IntKind.wrap_i64];omega
  obtain ⟨c0,c1⟩:=HCE.o wr HBE.o
  go_upto_region 3 with fail
  refine Kit.wp_region_gplan (fun V=>V.cell? ⟨N,0,none⟩=some (.int .i64 (b:Int))∧V.cell? ⟨N,1,none⟩=some (.int .i64 (n:Int))) [(true,0),(true,1),(true,3),(false,2),(false,4),(true,5),(true,6)] (by kernel_rfl) (by kernel_rfl) (by kernel_rfl) (by kernel_rfl) ⟨c0,c1⟩ ?_
  iterate 3 (refine Kit.gplan_head (by rfl) (.inl ⟨by rfl,fun w' hS=>by (dsimp only at hS);go_simp;(try with_reducible rfl)⟩) ?_;simp only [Act.put,List.setIfInBounds_toArray,List.set_cons_zero,List.set_cons_succ])
  clear c0 c1
  refine Kit.gplan_op (by rfl) (by rfl) fun K hK=> ?_
  go_simp
  go_at_call 293
  refine (HMA.o _).mono ?_
  rintro e w2 ⟨m1,rfl,hm1,h2⟩
  rw [HME.o] at hm1
  have hm2:=hm1.symm
  subst hm2
  have H2:Hid (Below (N+1) W w2):=hid (HST.o _ _ HBE.o ((Below.refl _ wr).drew.trans h2))
  have HO2:Hid (w2.ownsRow (N+1) 9 1 u5 k (strV vs)):=hid (own_later HOW.o ((Below.refl _ wr).drew.trans h2))
  clear h2 hm1
  refine hK _ _ (HCE.o _ H2.o) ?_
  clear hK K
  refine Kit.gplan_op (by rfl) (by rfl) fun K hK=> ?_
  go_simp
  go_at_call 296
  refine (HCK.o _).mono ?_
  rintro e w3 ⟨k1,rfl,hk1,h3⟩
  rw [HKE.o] at hk1
  have hk2:=hk1.symm
  subst hk2
  have H3:Hid (Below (N+1) W w3):=hid (HST.o _ _ H2.o h3)
  have HO3:Hid (w3.ownsRow (N+1) 9 1 u5 k (strV vs)):=hid (own_later HO2.o h3)
  clear h3 hk1
  refine hK _ _ (HCE.o _ H3.o) ?_
  clear hK K
  iterate 2 (refine Kit.gplan_head (by rfl) (.inl ⟨by rfl,fun w' hS=>by (dsimp only at hS);go_simp;(try with_reducible rfl)⟩) ?_;simp only [Act.put,List.setIfInBounds_toArray,List.set_cons_zero,List.set_cons_succ])
  refine Kit.gdn (h:=?_)
  by_cases hlt:k<C
  ·have hki:(k:Int)<(m0:Int)+(k0:Int):=by have:=HKM.o;omega
   go_upto_region 4 with (first
    | (go_at_call 297
       (refine (HSE.o k (by omega) _).mono ?_)
       rintro e w4 ⟨y,rfl,hy,h4⟩
       have HY:=hid hy
       have H4:Hid (Below (N+1) W w4):=hid (HST.o _ _ H3.o h4)
       have HO4:Hid (w4.ownsRow (N+1) 9 1 u5 k (strV vs)):=hid (own_later HO3.o h4)
       clear h4 hy)
    | (at_builtin
       refine app_str rfl _ _ rfl (N+1) _ k vs (by rfl) HO4.o (by have:=H4.o.size;have:=HWN.o;omega) (by omega) y 1 (by rfl) ?_
       intro v5 w5 ho5 hb5
       have HO5:=hid ho5
       have H5:Hid (Below (N+1) W w5):=hid (H4.o.trans hb5)
       clear ho5 hb5))
   go_wp2_with fail
   go_roundw
   case rel=>
    refine ⟨k+1,vs++[y],hlt,by go_num,by rw [List.length_append,HVL.o];rfl,?_,HO5.o,H5.o⟩
    show _=_
    rw [List.map_append,HVS.o,range_snoc]
    simp [HY.o]
   case measure=>simp [intOf];omega
  ·have hki: ¬(k:Int)<(m0:Int)+(k0:Int):=by have:=HKM.o;omega
   have hke:k=C:=by omega
   have HKC:=hid hke
   clear hke
   go_wp2_with fail
   go_ret
   rw [← HKC.o]
   exact ⟨_,rfl,vs,HVS.o,by rw [HN.o];exact ownsRow_base HO3.o (Nat.le_succ N),by rw [HN.o];exact HB.o.trans (H3.o.mono (Nat.le_succ N))⟩
theorem pow_last (b:Nat):2 ^ b=last b+1:=by
 unfold last
 have:=Nat.two_pow_pos b
 omega
theorem flat_snoc (l:List (List Nat)) (x:List Nat):(l++[x]).flatten=l.flatten++x:=by
 rw [List.flatten_append];simp
theorem refEnds_ok (b n:Nat) (hB:Bits b) (ds:List Nat) (hds: ∀x ∈ ds,x≤last b) (a1:Option Addr) (c1 L1:Nat) (hL1:ds.length=L1) (a2:Option Addr) (c2 L2:Nat) (ss:List ByteArray) (hL2:ss.length=L2) (hle:L2≤L1) (hC:L2≤999) (hsz: ∀s ∈ ss,s.size=32) (w:World) (hI:IntsAt w a1 ds) (hS:StrsAt w a2 ss) (T:List Nat) (hT:endsS b ds (ss.map nb) L2=T):
    Calls Tryz.prog 266 #[.agg #[.int .i64 (b:Int),.int .i64 (n:Int)],.slice a1 L1 c1,.slice a2 L2 c2] w fun e w'=> ∃u:ByteArray,e= .returned (.string u)∧nb u=T∧Below w.heap.size w w':=by
 have HBA:Hid (∀w,Calls Tryz.prog 295 #[.agg #[.int .i64 (b:Int),.int .i64 (n:Int)]] w fun e w'=>e= .returned (.int .i64 ((last b:Int)+1))∧Below w.heap.size w w'):=hid (fun w=>by
  have h:=base_any b n hB w
  rw [pow_last b,Int.natCast_add] at h
  exact h)
 have hM:=last_le hB
 have HT:Hid (publicB++((List.range L2).map fun i=>chain i (ds.getD i 0) (last b - ds.getD i 0) ((ss.map nb).getD i [])).flatten=T):=hT
 have HL1:=hid hL1
 have HL2:=hid hL2
 have HDS:=hid hds
 have HSZ:=hid hsz
 have HI:=hid hI
 have HS:=hid hS
 obtain ⟨M,hMe⟩:=ex_eq (last b)
 rw [hMe] at HBA hM HT HDS
 clear hB hds hL1 hL2 hsz hI hS hT hMe
 go_enter Tryz.func266,Tryz.ntmps266
 go_upto_region 1 with fail
 refine wp_over (fun W=>Hid (W.heap[w.heap.size]? =some (.cells #[.int .i64 (b:Int),.int .i64 (n:Int)] 261 (0,0)))∧Hid (Below w.heap.size w W)∧Hid (W.heap.size=w.heap.size+1)) ⟨heap_alloc_new _ _,(Below.refl _ _).alloc (Nat.le_refl _) _,by show _=_;simp⟩ ?_
 rintro W ⟨HG,HB,HWN⟩
 have HIW:=hid (HI.o.later HB.o)
 have HSW:=hid (HS.o.later HB.o)
 obtain ⟨N,hN⟩:=ex_eq w.heap.size
 rw [hN] at HG HB HWN ⊢
 have HN:=hid hN
 clear hN HI HS
 have HCE:Hid (∀V,Below (N+1) W V→V.cell? ⟨N,0,none⟩=some (.int .i64 (b:Int))∧V.cell? ⟨N,1,none⟩=some (.int .i64 (n:Int))):=hid (fun V h=>by
  have hg:=(h.block N (Nat.lt_succ_self _)).trans HG.o
  exact ⟨cr hg,cr hg⟩)
 have HST:Hid (∀V V',Below (N+1) W V→Below V.heap.size V V'→Below (N+1) W V'):=hid (fun V V' h h'=>h.trans (h'.mono (by have:=h.size;have:=HWN.o;omega)))
 go_upto_region 3 with fail
 go_loopw [7,11] (fun x y wr=> ∃(k:Nat) (u:ByteArray),k≤L2∧y= .int .i64 (k:Int)∧x= .string u∧u.size≤6+32*k∧Hid (nb u=publicB++((List.range k).map fun i=>chain i (ds.getD i 0) (M - ds.getD i 0) ((ss.map nb).getD i [])).flatten)∧Hid (Below (N+1) W wr)) (fun _ y _=>L2 - (intOf y).toNat)
 case atStart=>exact ⟨0,_,by omega,rfl,rfl,by decide,rfl,Below.refl _ _⟩
 case round=>
  obtain ⟨k,u,hk,rfl,rfl,huz,HU,HBE⟩:=hrel
  by_cases hlt:k<L2
  ·have hki:(k:Int)<(L2:Int):=by omega
   have hk9:k≤999:=by omega
   have hkL1:k<L1:=by omega
   have hwM2:IntKind.i64.wrap (M:Int)=(M:Int):=by rw [IntKind.wrap_i64];omega
   have hwM:IntKind.i64.wrap ((M:Int)+1 - 1)=(M:Int):=by rw [IntKind.wrap_i64];omega
   have hdM:ds.getD k 0≤M:=HDS.o _ (getD_mem _ _ _ (by rw [HL1.o];omega))
   have hs9:(ss.getD k ByteArray.empty).size=32:=HSZ.o _ (getD_mem _ _ _ (by rw [HL2.o];omega))
   have HGM:=hid (getD_map ss k (by rw [HL2.o];exact hlt))
   obtain ⟨b1,o1,rfl,hcs⟩: ∃b o,a1=some ⟨b,o,none⟩∧ ∀i,i<ds.length→W.cell? ⟨b,o+i,none⟩=some (.int .i64 ((ds.getD i 0:Nat):Int)):=by
    rcases HIW.o with h | h
    ·have:=HL1.o;rw [h] at this;simp at this;omega
    ·exact h
   obtain ⟨b2,o2,rfl,hps⟩: ∃b o,a2=some ⟨b,o,none⟩∧ ∀i,i<ss.length→W.cell? ⟨b,o+i,none⟩=some (.string (ss.getD i ByteArray.empty)):=by
    rcases HSW.o with h | h
    ·have:=HL2.o;rw [h] at this;simp at this;omega
    ·exact h
   have hc:=hcs k (by rw [HL1.o];omega)
   have hp:=hps k (by rw [HL2.o];omega)
   obtain ⟨d,hd⟩:=ex_eq (ds.getD k 0)
   obtain ⟨s,hse⟩:=ex_eq (ss.getD k ByteArray.empty)
   rw [hd] at hc hdM
   rw [hse] at hp HGM hs9
   have HS32:=hid hs9
   have HSA:Hid (∀V,Below (N+1) W V→V.cell? ⟨N,0,none⟩=some (.int .i64 (b:Int))∧V.cell? ⟨N,1,none⟩=some (.int .i64 (n:Int))∧V.cell? ⟨b1,o1+k,none⟩=some (.int .i64 (d:Int))∧V.cell? ⟨b2,o2+k,none⟩=some (.string s)):=hid (fun V h=>by
    have h':=HCE.o V h
    exact ⟨h'.1,h'.2,(h.cell (p:=⟨b1,o1+k,none⟩) (by have:=World.block_lt_of_cell? W _ hc;rw [HWN.o] at this;exact this)).trans hc,(h.cell (p:=⟨b2,o2+k,none⟩) (by have:=World.block_lt_of_cell? W _ hp;rw [HWN.o] at this;exact this)).trans hp⟩)
   have HD:=hid hd
   have HCH:=hid (fun w=>refChain_ok k d M hk9 hdM (by omega) s (by rw [HS32.o];omega) w (chain k d (M - d) (nb s)) rfl)
   clear hcs hps hc hp hd hse hs9
   obtain ⟨c0,c1,c2',c3⟩:=HSA.o wr HBE.o
   go_upto_region 5 with fail
   refine Kit.wp_region_gplan (fun V=>V.cell? ⟨N,0,none⟩=some (.int .i64 (b:Int))∧V.cell? ⟨N,1,none⟩=some (.int .i64 (n:Int))∧V.cell? ⟨b1,o1+k,none⟩=some (.int .i64 (d:Int))∧V.cell? ⟨b2,o2+k,none⟩=some (.string s)) [(true,0),(true,1),(true,2),(true,3),(true,4),(true,5),(true,6),(true,9),(true,10),(true,11),(true,12),(false,7),(true,8),(false,13),(true,14),(true,15)] (by kernel_rfl) (by kernel_rfl) (by kernel_rfl) (by kernel_rfl) ⟨c0,c1,c2',c3⟩ ?_
   iterate 11 (refine Kit.gplan_head (by rfl) (.inl ⟨by rfl,fun w' hS=>by (dsimp only at hS);go_simp;(try with_reducible rfl)⟩) ?_;simp only [Act.put,List.setIfInBounds_toArray,List.set_cons_zero,List.set_cons_succ])
   clear c0 c1 c2' c3
   refine Kit.gplan_op (by rfl) (by rfl) fun K hK=> ?_
   go_simp
   go_at_call 295
   refine (HBA.o _).mono ?_
   rintro e w2 ⟨rfl,h2⟩
   have H2:Hid (Below (N+1) W w2):=hid (HST.o _ _ HBE.o ((Below.refl _ wr).drew.trans h2))
   clear h2
   refine hK _ _ (HSA.o _ H2.o) ?_
   clear hK K
   refine Kit.gplan_head (by rfl) (.inl ⟨by rfl,fun w' hS=>by (dsimp only at hS);go_simp;(try with_reducible rfl)⟩) ?_
   simp only [Act.put,List.setIfInBounds_toArray,List.set_cons_zero,List.set_cons_succ]
   refine Kit.gplan_op (by rfl) (by rfl) fun K hK=> ?_
   go_simp
   go_at_call 254
   with_reducible refine (HCH.o _).mono ?_
   rintro e w3 ⟨y,rfl,hy,h3⟩
   have HY:=hid hy
   have hy32:y.size≤32:=by rw [← nb_length,hy,chain_length _ _ _ _ (by rw [nb_length];exact HS32.o)];exact Nat.le_refl _
   have hcat: ¬9223372036854775807<u.size+y.size:=by omega
   have H3:Hid (Below (N+1) W w3):=hid (HST.o _ _ H2.o h3)
   clear h3 hy
   refine hK _ _ (HSA.o _ H3.o) ?_
   clear hK K
   iterate 2 (refine Kit.gplan_head (by rfl) (.inl ⟨by rfl,fun w' hS=>by (dsimp only at hS);go_simp;(try with_reducible rfl)⟩) ?_;simp only [Act.put,List.setIfInBounds_toArray,List.set_cons_zero,List.set_cons_succ])
   refine Kit.gdn (h:=?_)
   go_wp2_with fail
   go_roundw
   case rel=>
    refine ⟨k+1,_,hlt,by go_num,rfl,?_,?_,H3.o⟩
    ·rw [ByteArray.size_append];omega
    show _=_
    rw [nb_app,HU.o,HY.o,range_snoc,flat_snoc,HD.o,HGM.o,List.append_assoc]
   case measure=>simp [intOf];omega
  ·have hki: ¬(k:Int)<(L2:Int):=by omega
   have hke:k=L2:=by omega
   have HKE:=hid hke
   clear hke
   go_wp2_with fail
   go_ret
   exact ⟨_,rfl,by rw [HU.o,HKE.o,HT.o],by rw [HN.o];exact HB.o.trans (HBE.o.mono (Nat.le_succ N))⟩
end Go.Proofs.YtndlihclgdkpaaaGreatDoor
namespace Go.Proofs.YtndlihclgdkpaaaGreatDoor
open Go.RowKit
open Go.Proofs.YtndlihclgdkpaaaGreatDoor.One
theorem ends_zero (B:Nat) (z:List Nat) (hz: ∀i,z.getD i 0=0) (parts:List (List Nat)) (n:Nat):endsS B z parts n=endsS B [] parts n:=by
 unfold endsS ends
 congr 2
 refine List.map_congr_left fun i _=> ?_
 rw [hz i];rfl
end Go.Proofs.YtndlihclgdkpaaaGreatDoor
namespace Go.Proofs.YtndlihclgdkpaaaGreatDoor
open Go.RowKit
open Kit (Chg)
open Sha (v)
open Go.Proofs.YtndlihclgdkpaaaGreatDoor.One

theorem starts_size {vs:List ByteArray} {seed:List Nat} {L:Nat} (h:vs.map nb=starts seed L): ∀s ∈ vs,s.size=32:=fun s hs=>by
 have h1:nb s ∈ vs.map nb:=List.mem_map.2 ⟨s,hs,rfl⟩
 rw [h] at h1
 obtain ⟨i,_,he⟩:=List.mem_map.1 h1
 rw [← nb_length,← he]
 exact secret_length _ _
theorem zeros_get (L:Nat) (i:Nat):(List.replicate L 0).getD i 0=0:=by
 rw [lD,List.getElem?_replicate]
 split<;> rfl
theorem mk_ints (L:Nat) (hL:L≤100000) (W:World):(Instr.makeSlice 81 (.int .i64 (L:Int)) (.int .i64 (L:Int))).run Tryz.prog W= .ok (.slice (some ⟨W.heap.size,0,none⟩) L L) (W.alloc (.cells (natV (List.replicate L 0)).toArray 3)):=by
 obtain ⟨i0,hi0,hz0,hz1,hz2⟩:=info_parts Tryz.info3
 have h:=run_makeSlice (P:= Tryz.prog) (w:=W) 81 3 i0 _ Tryz.underlying81 hi0 hz0 .i64 .i64 (L:Int) (L:Int) (by omega) (by omega) (by rw [hz1];omega) (by rw [hz2];omega) (by omega)
 rw [h,hz1]
 simp only [Int.toNat_natCast,Nat.mul_one]
 have e:madeCells (Value.int .i64 0).cells L=(natV (List.replicate L 0)).toArray:=by
  unfold madeCells natV
  simp [Value.cells]
  apply Array.ext
  ·simp
  ·intro i h1 h2
   simp [Nat.mod_one]
 rw [e]
theorem ints_of_row {w:World} {g:Nat} {zs:List Nat} {t:TypeId} {fr:Nat × Nat} (h:w.heap[g]? =some (.cells (natV zs).toArray t fr)):IntsAt w (some ⟨g,0,none⟩) zs:=by
 refine .inr ⟨g,0,rfl,fun i hi=> ?_⟩
 rw [Nat.zero_add,cell_of_row _ _ _ _ _ _ h,List.getElem?_toArray]
 exact natV_get zs i hi
theorem flat_len32: ∀l:List (List Nat),(∀x ∈ l,x.length=32)→l.flatten.length=32*l.length
 | [],_=>rfl
 | x::l,h=>by
   rw [List.flatten_cons,List.length_append,h x (List.mem_cons_self ..),flat_len32 l (fun y hy=>h y (List.mem_cons_of_mem _ hy)),List.length_cons]
   omega
theorem endsS_length (B:Nat) (steps:List Nat) (parts:List (List Nat)) (n:Nat) (h: ∀i,i<n→(parts.getD i []).length=32):(endsS B steps parts n).length=6+32*n:=by
 unfold endsS
 rw [List.length_append,flat_len32 _ (ends_len32 B steps parts n h),ends_length]
 rfl
theorem parts32 {ss:List ByteArray} (h: ∀s ∈ ss,s.size=32) (i:Nat) (hi:i<ss.length):((ss.map nb).getD i []).length=32:=by
 rw [getD_map ss i hi,nb_length]
 exact h _ (getD_mem _ _ _ hi)
theorem refPublic_ok (b n:Nat) (hB:Bits b) (hn:0<n) (hn2:n≤32) (seed:ByteArray) (hs:seed.size=32) (w:World):
    Calls Tryz.prog 251 #[.agg #[.int .i64 (b:Int),.int .i64 (n:Int)],.string seed] w fun e w'=> ∃u:ByteArray,e= .returned (.string u)∧nb u=pub b (nb seed) (count b n)∧Below w.heap.size w w':=by
 have HSR:=hid (fun w=>refStart_ok b n hB hn hn2 seed hs w)
 have HEN:=hid (fun g a2 c2 L2 vs hl h9 h32 w hI hS=>refEnds_ok b n hB (List.replicate L2 0) (fun x hx=>by rw [List.eq_of_mem_replicate hx];exact Nat.zero_le _) (some ⟨g,0,none⟩) L2 L2 (List.length_replicate ..) a2 c2 L2 vs hl (Nat.le_refl _) h9 h32 w hI hS (endsS b (List.replicate L2 0) (vs.map nb) L2) rfl)
 have HPU:Hid (∀L,Sha.sum (endsS b (List.replicate L 0) (starts (nb seed) L) L)=pub b (nb seed) L):=hid (fun L=>by rw [ends_zero b _ (zeros_get L),endsS_start])
 have hC:=count_le hB hn2
 obtain ⟨C,hCe⟩:=ex_eq (count b n)
 rw [hCe] at hC ⊢
 have HCEQ:=hid hCe
 clear hB hn hn2 hs hCe
 go_enter Tryz.func251,Tryz.ntmps251
 go_upto_region 1 with fail
 refine wp_over (fun W=>Hid (W.heap[w.heap.size]? =some (.cells #[.int .i64 (b:Int),.int .i64 (n:Int)] 261 (0,0)))∧Hid (Below w.heap.size w W)∧Hid (W.heap.size=w.heap.size+1)) ⟨heap_alloc_new _ _,(Below.refl _ _).alloc (Nat.le_refl _) _,by show _=_;simp⟩ ?_
 rintro W ⟨HG,HB,HWN⟩
 obtain ⟨N,hN⟩:=ex_eq w.heap.size
 rw [hN] at HG HB HWN ⊢
 have HN:=hid hN
 clear hN
 have HCE:Hid (∀V,Below (N+1) W V→V.cell? ⟨N,0,none⟩=some (.int .i64 (b:Int))∧V.cell? ⟨N,1,none⟩=some (.int .i64 (n:Int))):=hid (fun V h=>by
  have hg:=(h.block N (Nat.lt_succ_self _)).trans HG.o
  exact ⟨cr hg,cr hg⟩)
 have HST:Hid (∀V V',Below (N+1) W V→Below V.heap.size V V'→Below (N+1) W V'):=hid (fun V V' h h'=>h.trans (h'.mono (by have:=h.size;have:=HWN.o;omega)))
 have HEND:Hid (∀V,Below (N+1) W V→Below w.heap.size w V):=hid (fun V h=>by rw [HN.o];exact HB.o.trans (h.mono (Nat.le_succ N)))
 obtain ⟨c0,c1⟩:=HCE.o W (Below.refl _ _)
 go_upto_region 2 with (first
  | (go_at_call 253
     (refine (HSR.o _).mono ?_)
     rintro e w2 ⟨x,L,vs,rfl,hL,hvs,ho2,h2⟩
     rw [HCEQ.o] at hL
     have hL2:=hL.symm
     subst hL2
     have H2:Hid (Below (N+1) W w2):=hid (HST.o _ _ (Below.refl _ _) h2)
     obtain ⟨a2,cp2,rfl,hl2,hc2,hS2,hnil2,hlt2⟩:=strs_of_own ho2
     have HVS:=hid hvs
     have HL2:=hid hl2
     have HS2:=hid hS2
     clear h2 ho2 hL hvs hl2 hc2 hS2 hnil2 hlt2))
 have HV32:=hid (starts_size HVS.o)
 clear c0 c1
 obtain ⟨c0,c1⟩:=HCE.o w2 H2.o
 have hmk:=mk_ints C (by omega)
 refine Kit.wp_region_gplan (fun V=>V.cell? ⟨N,0,none⟩=some (.int .i64 (b:Int))∧V.cell? ⟨N,1,none⟩=some (.int .i64 (n:Int))) [(true,0),(true,1),(true,2),(true,4),(false,3),(false,5),(false,6),(false,7),(true,8)] (by kernel_rfl) (by kernel_rfl) (by kernel_rfl) (by kernel_rfl) ⟨c0,c1⟩ ?_
 iterate 4 (refine Kit.gplan_head (by rfl) (.inl ⟨by rfl,fun w' hS=>by (dsimp only at hS);go_simp;(try with_reducible rfl)⟩) ?_;simp only [Act.put,List.setIfInBounds_toArray,List.set_cons_zero,List.set_cons_succ])
 clear c0 c1
 refine Kit.gplan_op (by rfl) (by rfl) fun K hK=> ?_
 go_simp
 have H3:Hid (Below (N+1) W (w2.alloc (.cells (natV (List.replicate C 0)).toArray 3)).drew):=hid (H2.o.alloc (by have:=H2.o.size;have:=HWN.o;omega) _).drew
 have HI3:Hid (IntsAt (w2.alloc (.cells (natV (List.replicate C 0)).toArray 3)).drew (some ⟨w2.heap.size,0,none⟩) (List.replicate C 0)):=hid (ints_of_row (t:=3) (fr:=(0,0)) (heap_alloc_new w2 _))
 have HS3:Hid (StrsAt (w2.alloc (.cells (natV (List.replicate C 0)).toArray 3)).drew a2 vs):=hid (HS2.o.later ((Below.refl _ w2).alloc (Nat.le_refl _) _).drew)
 refine hK _ _ (HCE.o _ H3.o) ?_
 clear hK K hmk
 obtain ⟨w3,hw3⟩:=ex_eq (w2.alloc (.cells (natV (List.replicate C 0)).toArray 3)).drew
 rw [hw3] at H3 HI3 HS3 ⊢
 clear hw3
 obtain ⟨g,hg⟩:=ex_eq w2.heap.size
 rw [hg] at HI3 ⊢
 clear hg
 refine Kit.gplan_op (by rfl) (by rfl) fun K hK=> ?_
 go_simp
 go_at_call 266
 refine (HEN.o g a2 cp2 C vs HL2.o (by omega) HV32.o w3 HI3.o HS3.o).mono ?_
 rintro e w4 ⟨u4,rfl,hu4,h4⟩
 rw [HVS.o] at hu4
 have HU4:=hid hu4
 have H4:Hid (Below (N+1) W w4):=hid (HST.o _ _ H3.o h4)
 have hsz:u4.size≤100000:=by
  rw [← nb_length,hu4,← HVS.o,endsS_length _ _ _ _ (fun i hi=>parts32 HV32.o i (by rw [HL2.o];exact hi))]
  omega
 clear h4 hu4
 refine hK _ _ (HCE.o _ H4.o) ?_
 clear hK K
 obtain ⟨L4,hL4⟩:=ex_eq u4.size
 rw [hL4] at hsz
 obtain ⟨cp5,w5,hcv5,hle5,hB5,h5⟩:=str_at w4 u4 (by rw [hL4];unfold maxLen;omega) hL4
 have HB5:=hid hB5
 have HL4:=hid hL4
 have H5:Hid (Below (N+1) W w5):=hid (HST.o _ _ H4.o h5)
 clear hB5 hL4 h5 hle5
 refine Kit.gplan_op (by rfl) (by rfl) fun K hK=> ?_
 go_simp
 refine hK _ _ (HCE.o _ H5.o) ?_
 clear hK K hcv5
 refine Kit.gplan_op (by rfl) (by rfl) fun K hK=> ?_
 go_simp
 go_at_call 190
 refine (refSum_l (some ⟨w4.heap.size,0,none⟩) cp5 (nb u4) L4 (by rw [nb_length];exact HL4.o) (fun e=>by cases e) (by omega) w5 HB5.o).mono ?_
 rintro e w6 ⟨u6,rfl,hu6,h6⟩
 have HU6:Hid (nb u6=pub b (nb seed) C):=hid (by rw [hu6,HU4.o,HPU.o])
 have H6:Hid (Below (N+1) W w6):=hid (HST.o _ _ H5.o h6)
 clear h6 hu6
 refine hK _ _ (HCE.o _ H6.o) ?_
 clear hK K
 refine Kit.gplan_head (by rfl) (.inl ⟨by rfl,fun w' hS=>by (dsimp only at hS);go_simp;(try with_reducible rfl)⟩) ?_
 refine Kit.gdn (h:=?_)
 go_wp2_with fail
 go_ret
 exact ⟨u6,rfl,HU6.o,HEND.o _ H6.o⟩
theorem refSign_ok (b:Nat) (digest:ByteArray) (hB:Bits b) (hn:0<digest.size) (hn2:digest.size≤32) (seed:ByteArray) (hs:seed.size=32) (w:World):
    Calls Tryz.prog 194 #[.agg #[.int .i64 (b:Int),.int .i64 (digest.size:Int)],.string seed,.string digest] w fun e w'=> ∃(x:Value) (L:Nat) (vs:List ByteArray),e= .returned x∧L=count b digest.size∧vs.map nb=sign (nb seed) (One.digits b (nb digest))∧w'.ownsRow w.heap.size 9 1 x L (strV vs)∧Below w.heap.size w w':=by
 have HDG:=hid (fun w=>refDigits_any b digest hB hn hn2 w)
 have HSR:=hid (fun w=>refStart_ok b digest.size hB hn hn2 seed hs w)
 have HDL:Hid ((One.digits b (nb digest)).length=count b digest.size):=hid (by rw [digits_length hB,nb_length])
 have HD255:Hid (∀x ∈ One.digits b (nb digest),x≤255):=hid (fun x hx=>by
  have h1:=digits_lt b _ x hx
  have h2:=last_le hB
  unfold last at h2
  omega)
 have hC:=count_le hB hn2
 obtain ⟨DG,hDG⟩:=ex_eq (One.digits b (nb digest))
 rw [hDG] at HDG HDL HD255 ⊢
 have HSG:Hid (sign (nb seed) DG=(List.range DG.length).map fun i=>chain i 0 (DG.getD i 0) (secret (nb seed) i)):=rfl
 obtain ⟨C,hCe⟩:=ex_eq (count b digest.size)
 rw [hCe] at hC HDL ⊢
 have HCEQ:=hid hCe
 clear hB hn hn2 hs hDG hCe
 go_enter Tryz.func194,Tryz.ntmps194
 go_upto_region 1 with fail
 refine wp_over (fun W=>Hid (W.heap[w.heap.size]? =some (.cells #[.int .i64 (b:Int),.int .i64 (digest.size:Int)] 261 (0,0)))∧Hid (Below w.heap.size w W)∧Hid (W.heap.size=w.heap.size+1)) ⟨heap_alloc_new _ _,(Below.refl _ _).alloc (Nat.le_refl _) _,by show _=_;simp⟩ ?_
 rintro W ⟨HG,HB,HWN⟩
 obtain ⟨N,hN⟩:=ex_eq w.heap.size
 rw [hN] at HG HB HWN ⊢
 have HN:=hid hN
 clear hN
 have HCE:Hid (∀V,Below (N+1) W V→V.cell? ⟨N,0,none⟩=some (.int .i64 (b:Int))∧V.cell? ⟨N,1,none⟩=some (.int .i64 (digest.size:Int))):=hid (fun V h=>by
  have hg:=(h.block N (Nat.lt_succ_self _)).trans HG.o
  exact ⟨cr hg,cr hg⟩)
 have HST:Hid (∀V V',Below (N+1) W V→Below V.heap.size V V'→Below (N+1) W V'):=hid (fun V V' h h'=>h.trans (h'.mono (by have:=h.size;have:=HWN.o;omega)))
 have HEND:Hid (∀V,Below (N+1) W V→Below w.heap.size w V):=hid (fun V h=>by rw [HN.o];exact HB.o.trans (h.mono (Nat.le_succ N)))
 obtain ⟨c0,c1⟩:=HCE.o W (Below.refl _ _)
 go_upto_region 3 with (first
  | (go_at_call 252
     (refine (HDG.o _).mono ?_)
     rintro e w2 ⟨x,L,rfl,hL,hown,h2⟩
     rw [HDL.o] at hL
     have hL3:=hL.symm
     subst hL3
     obtain ⟨a2,cp2,rfl,hl2,hc2,hI2,hnil2⟩:=own_ints hown
     have HI2:=hid hI2
     have H2:Hid (Below (N+1) W w2):=hid (HST.o _ _ (Below.refl _ _) h2)
     clear h2 hown hl2 hc2 hI2 hnil2 hL))
 clear c0 c1
 obtain ⟨c0,c1⟩:=HCE.o w2 H2.o
 go_upto_region 4 with (first
  | (go_at_call 253
     (refine (HSR.o _).mono ?_)
     rintro e w3 ⟨x,L3,vs3,rfl,hL,hvs,ho3,h3⟩
     rw [HCEQ.o] at hL
     have hL7:=hL.symm
     subst hL7
     have H3:Hid (Below (N+1) W w3):=hid (HST.o _ _ H2.o h3)
     obtain ⟨a3,cp3,rfl,hl3,hc3,hS3,hnil3,hlt3⟩:=strs_of_own ho3
     have HI3:=hid (HI2.o.later h3)
     have HVS3:=hid hvs
     have HL3:=hid hl3
     have HS3:=hid hS3
     clear h3 ho3 hvs hl3 hc3 hS3 hnil3 hlt3))
 clear c0 c1
 obtain ⟨M3,hM3⟩:=ex_eq w3.heap.size
 have HM3:=hid hM3
 have HNM:Hid (N+1≤M3):=hid (by have:=H3.o.size;have:=HWN.o;omega)
 clear hM3
 go_loopw [8,18] (fun x y wr=> ∃(k:Nat) (vs:List ByteArray),k≤C∧y= .int .i64 (k:Int)∧vs.length=k∧Hid (vs.map nb=(List.range k).map fun i=>chain i 0 (DG.getD i 0) (secret (nb seed) i))∧Hid (wr.ownsRow M3 9 1 x k (strV vs))∧Hid (Below M3 w3 wr)) (fun _ y _=>C - (intOf y).toNat)
 case atStart=>exact ⟨0,[],by omega,rfl,rfl,rfl,own_nil,Below.refl _ _⟩
 case round=>
  obtain ⟨k,vs,hk,rfl,hvl,HVS,HOW,HBE⟩:=hrel
  have HVL:=hid hvl
  clear hvl
  by_cases hlt:k<C
  ·have hki:(k:Int)<(C:Int):=by omega
   have hd255:DG.getD k 0≤255:=HD255.o _ (getD_mem _ _ _ (by rw [HDL.o];exact hlt))
   obtain ⟨b1,o1,rfl,hcs⟩: ∃b o,a2=some ⟨b,o,none⟩∧ ∀i,i<DG.length→wr.cell? ⟨b,o+i,none⟩=some (.int .i64 ((DG.getD i 0:Nat):Int)):=by
    rcases HI3.o.later (by rw [HM3.o];exact HBE.o) with h | h
    ·have:=HDL.o;rw [h] at this;simp at this;omega
    ·exact h
   obtain ⟨b3,o3,rfl,hps⟩: ∃b o,a3=some ⟨b,o,none⟩∧ ∀i,i<vs3.length→wr.cell? ⟨b,o+i,none⟩=some (.string (vs3.getD i ByteArray.empty)):=by
    rcases HS3.o.later (by rw [HM3.o];exact HBE.o) with h | h
    ·have:=HL3.o;rw [h] at this;simp at this;omega
    ·exact h
   have hc:=hcs k (by rw [HDL.o];exact hlt)
   have hp:=hps k (by rw [HL3.o];exact hlt)
   have HSK:Hid (nb (vs3.getD k ByteArray.empty)=secret (nb seed) k):=hid (by
    rw [← getD_map vs3 k (by rw [HL3.o];exact hlt),HVS3.o,starts_getD _ _ _ hlt])
   obtain ⟨d,hd⟩:=ex_eq (DG.getD k 0)
   obtain ⟨s,hse⟩:=ex_eq (vs3.getD k ByteArray.empty)
   rw [hd] at hc hd255
   rw [hse] at hp HSK
   have HD:=hid hd
   have HCH:Hid (∀w,Calls Tryz.prog 254 #[.int .i64 (k:Int),.int .i64 0,.int .i64 (d:Int),.string s] w fun e w'=> ∃u:ByteArray,e= .returned (.string u)∧nb u=chain k 0 d (nb s)∧Below w.heap.size w w'):=hid (fun w=>refChain_ok k 0 d (by omega) (Nat.zero_le _) (by omega) s (by rw [← nb_length,HSK.o,secret_length];omega) w (chain k 0 d (nb s)) rfl)
   have HWR:Hid (M3≤wr.heap.size):=hid (by have:=HBE.o.size;have:=HM3.o;omega)
   have HX:Hid (∃x,wr.ownsRow M3 9 1 x k (strV vs)):=hid ⟨_,HOW.o⟩
   clear hcs hps hd hse
   have h30:o3+0+k=o3+k:=by omega
   go_upto_region 6 with fail
   go_wp2_with (first
    | (go_at_call 254
       (with_reducible refine (HCH.o _).mono ?_)
       rintro e w4 ⟨y,rfl,hy,h4⟩
       have HY:=hid hy
       have HO4:=hid (own_later HOW.o h4)
       have H4:Hid (Below M3 w3 w4):=hid (HBE.o.trans (h4.mono HWR.o))
       clear h4 hy)
    | (at_builtin
       refine app_str rfl _ _ rfl M3 _ k vs (by rfl) HO4.o (by have:=H4.o.size;have:=HM3.o;omega) (by omega) y 1 (by rfl) ?_
       intro v5 w5 ho5 hb5
       have HO5:=hid ho5
       have H5:Hid (Below M3 w3 w5):=hid (H4.o.trans hb5)
       clear ho5 hb5))
   go_roundw
   case rel=>
    refine ⟨k+1,vs++[y],hlt,by go_num,by rw [List.length_append,HVL.o];rfl,?_,HO5.o,H5.o⟩
    show _=_
    rw [List.map_append,HVS.o,range_snoc]
    congr 1
    show [nb y]=[chain k 0 (DG.getD k 0) (secret (nb seed) k)]
    rw [HY.o,HSK.o,HD.o]
   case measure=>simp [intOf];omega
  ·have hki: ¬(k:Int)<(C:Int):=by omega
   have hke:k=C:=by omega
   have HKC:=hid hke
   clear hke
   go_wp2_with fail
   go_ret
   rw [← HKC.o]
   exact ⟨_,rfl,vs,by rw [HVS.o,HSG.o,HDL.o,HKC.o],by rw [HN.o];exact ownsRow_base HOW.o (by have:=HNM.o;omega),HEND.o _ (H3.o.trans (HBE.o.mono HNM.o))⟩
end Go.Proofs.YtndlihclgdkpaaaGreatDoor
