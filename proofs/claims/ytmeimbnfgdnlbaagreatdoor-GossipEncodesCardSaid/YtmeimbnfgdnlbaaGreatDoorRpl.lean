/- Plain words of wire.Reader: reading numbers and blocks; entries are read back. -/
import Derived.Test.YtmeimbnfgdnlbaaGreatDoorGg
set_option linter.unusedVariables false
set_option linter.unusedSimpArgs false
open Go.Lib (hid)
namespace Go.Proofs.YtmeimbnfgdnlbaaGreatDoor
open Go.Proofs.YtmeimbnfgdnlbaaGreatDoor.One

def rdGo:Nat→List Nat→Option (Nat × List Nat)
 | 0,_=>none
 | _+1,[]=>none
 | k+1,b::r=>if 128≤b then (match rdGo k r with | some (v,r')=>some (b - 128+128*v,r') | none=>none) else if (k<9∧b=0)∨(k=0∧1<b) then none else some (b,r)
def rdNum (bs:List Nat):Option (Nat × List Nat):=rdGo 10 bs
theorem rdGo_num: ∀(k n:Nat) (r:List Nat),k≤9→n<2*128 ^ k→(k=9∨0<n)→rdGo (k+1) (num n++r)=some (n,r):=by
 intro k
 induction k with
 | zero=>
   intro n r hk hn h0
   rw [num_small (by omega)]
   simp only [List.singleton_append,rdGo]
   rw [if_neg (by omega),if_neg (by omega)]
 | succ k ih=>
   intro n r hk hn h0
   by_cases hs:n<128
   ·rw [num_small hs]
    simp only [List.singleton_append,rdGo]
    rw [if_neg (by omega),if_neg (by omega)]
   ·rw [num_big (by omega),List.cons_append,rdGo,if_pos (by omega),ih (n/128) r (by omega) (by rw [Nat.div_lt_iff_lt_mul (by decide)];rw [Nat.pow_succ] at hn;omega) (.inr (by omega))]
    simp only [Option.some.injEq,Prod.mk.injEq,and_true]
    omega
theorem rdGo_some: ∀(k:Nat) (bs:List Nat) (n:Nat) (r:List Nat),k≤9→(∀x ∈ bs,x<256)→rdGo (k+1) bs=some (n,r)→bs=num n++r∧n<2*128 ^ k∧(k=9∨0<n):=by
 intro k
 induction k with
 | zero=>
   intro bs n r hk hb h
   cases bs with
   | nil=>simp [rdGo] at h
   | cons b t=>
     rw [rdGo] at h
     by_cases hs:128≤b
     ·rw [if_pos hs] at h;simp [rdGo] at h
     ·rw [if_neg hs] at h
      split at h
      ·cases h
      ·simp only [Option.some.injEq,Prod.mk.injEq] at h
       obtain ⟨rfl,rfl⟩:=h
       rw [num_small (by omega)]
       exact ⟨rfl,by omega,.inr (by omega)⟩
 | succ k ih=>
   intro bs n r hk hb h
   cases bs with
   | nil=>simp [rdGo] at h
   | cons b t=>
     rw [rdGo] at h
     by_cases hs:128≤b
     ·rw [if_pos hs] at h
      cases hq:rdGo (k+1) t with
      | none=>rw [hq] at h;cases h
      | some p=>
        obtain ⟨v,r'⟩:=p
        rw [hq] at h
        simp only [Option.some.injEq,Prod.mk.injEq] at h
        obtain ⟨rfl,rfl⟩:=h
        obtain ⟨e,h1,h2⟩:=ih t v r' (by omega) (fun x hx=>hb x (List.mem_cons_of_mem _ hx)) hq
        have hv:0<v:=by omega
        have hb2:=hb b List.mem_cons_self
        refine ⟨?_,by rw [Nat.pow_succ];omega,.inr (by omega)⟩
        rw [num_big (by omega),List.cons_append,e]
        congr 1
        ·omega
        ·congr 2;omega
     ·rw [if_neg hs] at h
      split at h
      ·cases h
      ·rename_i hn
       simp only [Option.some.injEq,Prod.mk.injEq] at h
       obtain ⟨rfl,rfl⟩:=h
       rw [num_small (by omega)]
       have:0<128 ^ k:=Nat.pow_pos (by decide)
       exact ⟨rfl,by rw [Nat.pow_succ];omega,by omega⟩
theorem rdNum_num {n:Nat} (r:List Nat) (hn:n<18446744073709551616):rdNum (num n++r)=some (n,r):=rdGo_num 9 n r (by omega) (by omega) (.inl rfl)
theorem rdNum_some {bs:List Nat} {n:Nat} {r:List Nat} (hb: ∀x ∈ bs,x<256) (h:rdNum bs=some (n,r)):bs=num n++r∧n<18446744073709551616:=by
 obtain ⟨h1,h2,_⟩:=rdGo_some 9 bs n r (by omega) hb h
 exact ⟨h1,by omega⟩
def rdLim (m:Nat) (bs:List Nat):Option (Nat × List Nat):=match rdNum bs with | some (n,r)=>if n≤m then some (n,r) else none | none=>none
theorem rdLim_num {m n:Nat} (r:List Nat) (hm:m<18446744073709551616) (hn:n≤m):rdLim m (num n++r)=some (n,r):=by
 unfold rdLim
 rw [rdNum_num r (by omega)]
 exact if_pos hn
theorem rdLim_some {m:Nat} {bs:List Nat} {n:Nat} {r:List Nat} (hb: ∀x ∈ bs,x<256) (h:rdLim m bs=some (n,r)):bs=num n++r∧n≤m:=by
 unfold rdLim at h
 cases hq:rdNum bs with
 | none=>rw [hq] at h;cases h
 | some p=>
   obtain ⟨v,r'⟩:=p
   rw [hq] at h
   simp only at h
   split at h
   ·cases h
    exact ⟨(rdNum_some hb hq).1,by assumption⟩
   ·cases h
def rdTake (n:Nat) (bs:List Nat):Option (List Nat × List Nat):=if n≤bs.length then some (bs.take n,bs.drop n) else none
theorem rdTake_app (x r:List Nat):rdTake x.length (x++r)=some (x,r):=by
 unfold rdTake
 rw [if_pos (by simp),List.take_left,List.drop_left]
theorem rdTake_some {n:Nat} {bs x r:List Nat} (h:rdTake n bs=some (x,r)):bs=x++r∧x.length=n:=by
 unfold rdTake at h
 split at h
 ·cases h
  exact ⟨(List.take_append_drop n bs).symm,by rw [List.length_take];omega⟩
 ·cases h
def rdBlk (m:Nat) (bs:List Nat):Option (List Nat × List Nat):=match rdLim m bs with | some (n,r)=>rdTake n r | none=>none
theorem rdBlk_app {m:Nat} (x r:List Nat) (hm:m<18446744073709551616) (hx:x.length≤m):rdBlk m (num x.length++(x++r))=some (x,r):=by
 unfold rdBlk
 rw [rdLim_num _ hm hx]
 exact rdTake_app x r
theorem rdBlk_some {m:Nat} {bs x r:List Nat} (hb: ∀y ∈ bs,y<256) (h:rdBlk m bs=some (x,r)):bs=num x.length++(x++r)∧x.length≤m:=by
 unfold rdBlk at h
 cases hq:rdLim m bs with
 | none=>rw [hq] at h;cases h
 | some p=>
   obtain ⟨v,r'⟩:=p
   rw [hq] at h
   simp only at h
   obtain ⟨h1,h2⟩:=rdLim_some hb hq
   obtain ⟨h3,h4⟩:=rdTake_some h
   exact ⟨by rw [h1,h3,h4],by omega⟩
abbrev RS:=Option (List Nat)
def rdU (m:Nat):RS→Nat × RS
 | none=>(0,none)
 | some bs=>match rdLim m bs with | some (n,r)=>(n,some r) | none=>(0,none)
def rdB (m:Nat):RS→List Nat × RS
 | none=>([],none)
 | some bs=>match rdBlk m bs with | some (x,r)=>(x,some r) | none=>([],none)
def mx:Nat:=1099511627776
structure EntRd where
 d:Nat
 q:Nat
 k:Nat
 y:Nat
 b:List Nat
 p:List Nat
 st:RS
def rdEnt (bs:List Nat):EntRd:=
 ⟨(rdU mx (some bs)).1,(rdU mx (rdU mx (some bs)).2).1,(rdU mx (rdU mx (rdU mx (some bs)).2).2).1,(rdU mx (rdU mx (rdU mx (rdU mx (some bs)).2).2).2).1,
  (rdB 69632 (rdU mx (rdU mx (rdU mx (rdU mx (some bs)).2).2).2).2).1,(rdB 32 (rdB 69632 (rdU mx (rdU mx (rdU mx (rdU mx (some bs)).2).2).2).2).2).1,
  (rdB 32 (rdB 69632 (rdU mx (rdU mx (rdU mx (rdU mx (some bs)).2).2).2).2).2).2⟩
theorem rdU_num {m n:Nat} (r:List Nat) (hm:m<18446744073709551616) (hn:n≤m):rdU m (some (num n++r))=(n,some r):=by
 show (match rdLim m (num n++r) with | some (n,r)=>(n,some r) | none=>(0,none))=_
 rw [rdLim_num r hm hn]
theorem rdB_app {m:Nat} (x r:List Nat) (hm:m<18446744073709551616) (hx:x.length≤m):rdB m (some (num x.length++(x++r)))=(x,some r):=by
 show (match rdBlk m (num x.length++(x++r)) with | some (x,r)=>(x,some r) | none=>([],none))=_
 rw [rdBlk_app x r hm hx]
theorem rdU_some {m:Nat} {s:RS} {r:List Nat} (h:(rdU m s).2=some r) (hb: ∀bs,s=some bs→ ∀x ∈ bs,x<256):s=some (num (rdU m s).1++r)∧(rdU m s).1≤m∧ ∀x ∈ r,x<256:=by
 cases s with
 | none=>simp [rdU] at h
 | some bs=>
   unfold rdU at h ⊢
   cases hq:rdLim m bs with
   | none=>simp only [hq] at h;cases h
   | some p=>
     obtain ⟨v,r'⟩:=p
     simp only [hq] at h ⊢
     cases h
     obtain ⟨h1,h2⟩:=rdLim_some (hb bs rfl) hq
     exact ⟨by rw [h1],h2,fun x hx=>hb bs rfl x (by rw [h1];exact List.mem_append_right _ hx)⟩
theorem rdB_some {m:Nat} {s:RS} {r:List Nat} (h:(rdB m s).2=some r) (hb: ∀bs,s=some bs→ ∀x ∈ bs,x<256):s=some (num (rdB m s).1.length++((rdB m s).1++r))∧(rdB m s).1.length≤m∧ ∀x ∈ r,x<256:=by
 cases s with
 | none=>simp [rdB] at h
 | some bs=>
   unfold rdB at h ⊢
   cases hq:rdBlk m bs with
   | none=>simp only [hq] at h;cases h
   | some p=>
     obtain ⟨v,r'⟩:=p
     simp only [hq] at h ⊢
     cases h
     obtain ⟨h1,h2⟩:=rdBlk_some (hb bs rfl) hq
     exact ⟨by rw [← h1],h2,fun x hx=>hb bs rfl x (by rw [h1];exact List.mem_append_right _ (List.mem_append_right _ hx))⟩
def EntRd.ent (x:EntRd):Ent:=⟨(x.d:Int),(x.q:Int),(x.k:Int),(x.y:Int),x.b,strB x.p⟩
theorem rdEnt_enc (e:Ent) (h:ValidE e):(rdEnt (encE e)).ent=e∧(rdEnt (encE e)).st=some []:=by
 obtain ⟨d,q,k,y,b,p⟩:=e
 have h0:=h.dev0
 have h1:=h.dev1
 have h2:=h.seq0
 have h3:=h.seq1
 have h4:=h.kind0
 have h5:=h.kind1
 have h6:=h.day0
 have h7:=h.day1
 have h8:=h.body
 have h9:p.size≤32:=by have:=h.prev;simp only at this;rw [this];split<;> omega
 simp only at h0 h1 h2 h3 h4 h5 h6 h7 h8
 have e1:encE ⟨d,q,k,y,b,p⟩=num d.toNat++(num q.toNat++(num k.toNat++(num y.toNat++(num b.length++(b++(num (nb p).length++(nb p++[]))))))):=by
  unfold encE
  simp only [List.append_assoc,List.append_nil,nb_length]
 rw [e1]
 have u1:=rdU_num (m:=mx) (n:=d.toNat) (num q.toNat++(num k.toNat++(num y.toNat++(num b.length++(b++(num (nb p).length++(nb p++[]))))))) (by decide) (by unfold mx;omega)
 have u2:=rdU_num (m:=mx) (n:=q.toNat) (num k.toNat++(num y.toNat++(num b.length++(b++(num (nb p).length++(nb p++[])))))) (by decide) (by unfold mx;omega)
 have u3:=rdU_num (m:=mx) (n:=k.toNat) (num y.toNat++(num b.length++(b++(num (nb p).length++(nb p++[]))))) (by decide) (by unfold mx;omega)
 have u4:=rdU_num (m:=mx) (n:=y.toNat) (num b.length++(b++(num (nb p).length++(nb p++[])))) (by decide) (by unfold mx;omega)
 have u5:=rdB_app (m:=69632) b (num (nb p).length++(nb p++[])) (by decide) h8
 have u6:=rdB_app (m:=32) (nb p) [] (by decide) (by rw [nb_length];exact h9)
 unfold rdEnt EntRd.ent
 simp only [u1,u2,u3,u4,u5,u6]
 refine ⟨Ent.ext' (by simp only;omega) (by simp only;omega) (by simp only;omega) (by simp only;omega) rfl ?_,trivial⟩
 exact nb_inj (nb_strB (nb_lt p))
theorem rdEnt_dec {bs:List Nat} (hb: ∀x ∈ bs,x<256) (h:(rdEnt bs).st=some []):encE (rdEnt bs).ent=bs:=by
 unfold rdEnt at h
 simp only at h
 obtain ⟨s1,hs1⟩: ∃s,s=rdU mx (some bs):=⟨_,rfl⟩
 obtain ⟨s2,hs2⟩: ∃s,s=rdU mx s1.2:=⟨_,rfl⟩
 obtain ⟨s3,hs3⟩: ∃s,s=rdU mx s2.2:=⟨_,rfl⟩
 obtain ⟨s4,hs4⟩: ∃s,s=rdU mx s3.2:=⟨_,rfl⟩
 obtain ⟨s5,hs5⟩: ∃s,s=rdB 69632 s4.2:=⟨_,rfl⟩
 obtain ⟨s6,hs6⟩: ∃s,s=rdB 32 s5.2:=⟨_,rfl⟩
 rw [← hs1,← hs2,← hs3,← hs4,← hs5,← hs6] at h
 have n6: ∃r,s5.2=some r:=by
  cases h5:s5.2 with
  | none=>rw [hs6,h5] at h;cases h
  | some r=>exact ⟨r,rfl⟩
 have n5: ∃r,s4.2=some r:=by
  cases h5:s4.2 with
  | none=>rw [hs5,h5] at n6;obtain ⟨r,hr⟩:=n6;cases hr
  | some r=>exact ⟨r,rfl⟩
 have n4: ∃r,s3.2=some r:=by
  cases h5:s3.2 with
  | none=>rw [hs4,h5] at n5;obtain ⟨r,hr⟩:=n5;cases hr
  | some r=>exact ⟨r,rfl⟩
 have n3: ∃r,s2.2=some r:=by
  cases h5:s2.2 with
  | none=>rw [hs3,h5] at n4;obtain ⟨r,hr⟩:=n4;cases hr
  | some r=>exact ⟨r,rfl⟩
 have n2: ∃r,s1.2=some r:=by
  cases h5:s1.2 with
  | none=>rw [hs2,h5] at n3;obtain ⟨r,hr⟩:=n3;cases hr
  | some r=>exact ⟨r,rfl⟩
 obtain ⟨r1,e1⟩:=n2
 obtain ⟨r2,e2⟩:=n3
 obtain ⟨r3,e3⟩:=n4
 obtain ⟨r4,e4⟩:=n5
 obtain ⟨r5,e5⟩:=n6
 obtain ⟨f1,_,l1⟩:=rdU_some (s:=some bs) (m:=mx) (by rw [← hs1];exact e1) (fun b hb'=>by cases hb';exact hb)
 obtain ⟨f2,_,l2⟩:=rdU_some (s:=s1.2) (m:=mx) (by rw [← hs2];exact e2) (fun b hb'=>by rw [e1] at hb';cases hb';exact l1)
 obtain ⟨f3,_,l3⟩:=rdU_some (s:=s2.2) (m:=mx) (by rw [← hs3];exact e3) (fun b hb'=>by rw [e2] at hb';cases hb';exact l2)
 obtain ⟨f4,_,l4⟩:=rdU_some (s:=s3.2) (m:=mx) (by rw [← hs4];exact e4) (fun b hb'=>by rw [e3] at hb';cases hb';exact l3)
 obtain ⟨f5,_,l5⟩:=rdB_some (s:=s4.2) (m:=69632) (by rw [← hs5];exact e5) (fun b hb'=>by rw [e4] at hb';cases hb';exact l4)
 obtain ⟨f6,_,l6⟩:=rdB_some (s:=s5.2) (m:=32) (by rw [← hs6];exact h) (fun b hb'=>by rw [e5] at hb';cases hb';exact l5)
 rw [← hs1] at f1
 rw [← hs2,e1] at f2
 rw [← hs3,e2] at f3
 rw [← hs4,e3] at f4
 rw [← hs5,e4] at f5
 rw [← hs6,e5] at f6
 have hp:(nb (strB s6.1))=s6.1:=nb_strB (fun x hx=>l5 x (by
  have:=Option.some.inj f6
  rw [this]
  exact List.mem_append_right _ (List.mem_append_left _ hx)))
 unfold rdEnt EntRd.ent encE
 simp only [← hs1,← hs2,← hs3,← hs4,← hs5,← hs6,Int.toNat_natCast]
 rw [Option.some.inj f1,Option.some.inj f2,Option.some.inj f3,Option.some.inj f4,Option.some.inj f5,Option.some.inj f6,hp,← nb_length,hp]
 simp only [List.append_assoc,List.append_nil]
end Go.Proofs.YtmeimbnfgdnlbaaGreatDoor
