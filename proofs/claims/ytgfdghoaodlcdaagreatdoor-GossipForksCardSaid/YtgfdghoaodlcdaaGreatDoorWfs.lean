/- What the law GossipForks keeps: a slice of logs, operations in memory. -/
import Derived.Test.YtgfdghoaodlcdaaGreatDoorWfr
import Derived.Test.YtgfdghoaodlcdaaGreatDoorWvl
import Derived.Test.YtgfdghoaodlcdaaGreatDoorVrg
set_option linter.unusedVariables false
set_option linter.unusedSimpArgs false
open Go.Lib (hid)
namespace Go.Proofs.YtgfdghoaodlcdaaGreatDoor
open Go.RowKit
open Kit (Chg)
open Sha (v)
open Go.Proofs.YtgfdghoaodlcdaaGreatDoor.One

theorem Laid.low3 {w:World} (h:Laid w):3≤w.heap.size:=by
 have h1: 1 <w.heap.size:=World.block_lt_of_cell? w _ h.pad0
 have h2: 2 <w.heap.size:=World.block_lt_of_cell? w _ (h.kon 0 (by decide))
 omega
def LSt (w:World) (base:Nat) (v:Value) (a:Option Addr) (es:List Ent):Prop:= ∃w1 lo,base≤lo∧NLog w1 lo a es∧Chg (fun q _=>q<lo∨w1.heap.size≤q) w1 w∧ ∀b,v.ownBlock=some b→b<lo∨w1.heap.size≤b
theorem LSt.log {w:World} {base:Nat} {v:Value} {a:Option Addr} {es:List Ent} (h:LSt w base v a es):NLog w base a es:=by
 obtain ⟨w1,lo,h0,h1,hc,_⟩:=h
 exact (h1.chg hc (fun k _ _ _=>by omega)).mono h0
theorem LSt.later {w w':World} {base:Nat} {v:Value} {a:Option Addr} {es:List Ent} (h:LSt w base v a es) (hb:Below w.heap.size w w'):LSt w' base v a es:=by
 obtain ⟨w1,lo,h0,h1,hc,h2⟩:=h
 exact ⟨w1,lo,h0,h1,hc.trans (Chg.of_below hb),h2⟩
theorem LSt.put {w w':World} {base:Nat} {v v':Value} {a:Option Addr} {es:List Ent} (h:LSt w base v a es) (hc:Chg (fun q _=>some q=v.ownBlock) w w') (hat:v'.ownBlock=v.ownBlock∨ ∃b,v'.ownBlock=some b∧w.heap.size≤b):LSt w' base v' a es:=by
 obtain ⟨w1,lo,h0,h1,hc1,h2⟩:=h
 refine ⟨w1,lo,h0,h1,hc1.trans (hc.mono fun q i _ e=>h2 q e.symm),fun b hb=> ?_⟩
 rcases hat with h3 | ⟨b',h3,h4⟩
 ·exact h2 b (h3.symm.trans hb)
 ·rw [h3] at hb
  cases hb
  exact .inr (Nat.le_trans hc1.size h4)
theorem LSt.new {w w1:World} {base lo:Nat} {v v':Value} {a:Option Addr} {es:List Ent} (h:NLog w1 lo a es) (h0:base≤lo) (hv: ∀b,v.ownBlock=some b→b<lo) (hc:Chg (fun q _=>some q=v.ownBlock) w1 w) (hat:v'.ownBlock=v.ownBlock∨ ∃b,v'.ownBlock=some b∧w1.heap.size≤b):LSt w base v' a es:=by
 refine ⟨w1,lo,h0,h,hc.mono fun q i _ e=> .inl (hv q e.symm),fun b hb=> ?_⟩
 rcases hat with h3 | ⟨b',h3,h4⟩
 ·exact .inl (hv b (h3.symm.trans hb))
 ·rw [h3] at hb
  cases hb
  exact .inr h4
structure CutL where
 bl:Nat
 n:Nat
 c:Nat
def CutL.val (x:CutL):Value:= .slice (some ⟨x.bl,0,none⟩) x.n x.c
theorem Tryz.infoSE:(Tryz.prog.info? 111).map (fun i=>(i.zero,i.size,i.bytes))=some (some (.slice none 0 0),1,24):=by kernel_rfl
section
variable {ops:Array Oper} {rest:List Oper} {o:Oper} {a:Act} {Q:Exit→Act→World→Prop}
theorem app_cut {w0:World} (hgd:o.guard=none) (s x:Operand) (ho:o.op= .call { callee:= .builtin .append,args:= #[s,x],argTypes:= #[125, 125] })
    (base:Nat) (v:Value) (L:Nat) (gs:List CutL) (hs:a.eval s=v) (hown:w0.ownsRow base 111 1 v L (gs.map CutL.val)) (hb:base≤w0.heap.size) (hL:L≤1000000)
    (g:CutL) (c:Nat) (hx:a.eval x= .slice (some ⟨w0.heap.size,0,none⟩) 1 c)
    (h: ∀v' w',w'.ownsRow base 111 1 v' (L+1) ((gs++[g]).map CutL.val)→(w0.alloc (.cells #[g.val] 111)).grownBy w' v.ownBlock→(v'.ownBlock=v.ownBlock∨v'.ownBlock=some (w0.heap.size+1))→wpList Tryz.prog ops Q rest (a.put o.dst v') w'):wpList Tryz.prog ops Q (o::rest) a (w0.alloc (.cells #[g.val] 111)):=by
 obtain ⟨i0,hi,hz0,hz1,hz2⟩:=info_parts Tryz.infoSE
 refine wpList_append_own_at _ hgd s x 125 ho base 111 i0 (.slice none 0 0) 1 24 Tryz.underlying125 hi hz0 hz1 hz2 rfl (by decide) v L (gs.map CutL.val) hs (hown.alloc _) ⟨w0.heap.size,0,none⟩ 1 c [g.val] hx rfl (cell_one_new _ _ _) (by simp [CutL.val,Value.oneCell']) (by unfold maxLen;omega) (by omega) (by simp;omega) ?_
 intro v' w4 hown4 hgr4 _ hat
 exact h v' w4 (by rw [List.map_append];exact hown4) hgr4 (by simpa using hat)
end
theorem cuts_of_own {w:World} {base n:Nat} {T:TypeId} {v:Value} {os:List CutL} (h:w.ownsRow base T 1 v n (os.map CutL.val)):n=os.length∧ ∃a cap,v= .slice a n cap∧ ∀(i:Nat) (hi:i<os.length),∃b,a=some ⟨b,0,none⟩∧w.cell? ⟨b,i,none⟩=some os[i].val:=by
 obtain ⟨hl,hv⟩:=h
 have hn:n=os.length:=by simp at hl;omega
 refine ⟨hn,?_⟩
 rcases hv with ⟨rfl,h0⟩ | ⟨g,cap,cur,rfl,hbg,hg,hnc,hcm,hcs,htake⟩
 ·exact ⟨none,0,by rw [h0],fun i hi=>by omega⟩
 ·refine ⟨some ⟨g,0,none⟩,cap,rfl,fun i hi=>⟨g,rfl,?_⟩⟩
  rw [cell_of_row _ _ _ _ _ _ hg]
  have h1:(os.map CutL.val)[i]? =some os[i].val:=by simp [hi]
  rw [← htake,Nat.mul_one,List.getElem?_take_of_lt (by omega)] at h1
  simpa using h1
theorem pub_cell {w:World} {base n bp cp:Nat} {pks:List ByteArray} (h:w.ownsRow base 9 1 (.slice (some ⟨bp,0,none⟩) n cp) n (strV pks)) {i:Nat} (hi:i<pks.length):w.cell? ⟨bp,i,none⟩=some (.string (pks.getD i ByteArray.empty)):=by
 obtain ⟨a,cap,he,h1,h2,h3,_⟩:=strs_of_own h
 injection he with e1 e2 e3
 rcases h3 with h3 | ⟨b,o,h3,h4⟩
 ·rw [h3] at hi;simp at hi
 ·rw [← e1] at h3
  injection h3 with h3
  injection h3 with h5 h6
  have:=h4 i hi
  rw [← h5,← h6,Nat.zero_add] at this
  exact this
theorem h8cell {w w':World} {bv j:Nat} {f:Nat→Value} (h: ∀i,i<3→w.cell? ⟨bv,i,none⟩=some (f i)) (hb:Below w.heap.size w w') (hj:j<3):w'.cell? ⟨bv,j,none⟩=some (f j):=by
 have h1:=h j hj
 exact (hb.cell (World.block_lt_of_cell? w _ h1)).trans h1
theorem cut_step {wr w8 w9:World} {X j b5 s L5 bv:Nat} {u v':Value} {o:Obj} {T:TypeId} {os:List CutL} {sd:Nat→Nat} {lg:Nat→List Ent} {f:Nat→Value} (hrow:wr.ownsRow X T 1 u j (os.map CutL.val)) (hl:os.length=j) (hall: ∀(i:Nat) (h:i<os.length),os[i].n=sd i∧LSt wr X u (some ⟨os[i].bl,0,none⟩) (lg i)) (hX:X≤wr.heap.size) (h8:Below wr.heap.size wr w8) (hn:NLog w8 wr.heap.size (some ⟨b5,0,none⟩) (lg j)) (hs:sd j=s) (hg:(w8.alloc o).grownBy w9 u.ownBlock) (hat:v'.ownBlock=u.ownBlock∨v'.ownBlock=some (w8.heap.size+1)) (hc: ∀i,i<3→wr.cell? ⟨bv,i,none⟩=some (f i)) (hv:bv<wr.heap.size∧X<wr.heap.size∧ ∀q,u.ownBlock=some q→q≠bv):
    (∀(i:Nat) (h:i<(os++[CutL.mk b5 s L5]).length),(os++[CutL.mk b5 s L5])[i].n=sd i∧LSt w9 X v' (some ⟨(os++[CutL.mk b5 s L5])[i].bl,0,none⟩) (lg i))∧Below X wr w9∧(∀i,i<3→w9.cell? ⟨bv,i,none⟩=some (f i))∧(bv<w9.heap.size∧X<w9.heap.size∧ ∀q,v'.ownBlock=some q→q≠bv):=by
 have hc9:Chg (fun q _=>some q=u.ownBlock) w8 w9:=(Chg.alloc1 w8 o).trans (Chg.of_grown hg (fun q _ e=>e.symm))
 have hat':v'.ownBlock=u.ownBlock∨ ∃b,v'.ownBlock=some b∧w8.heap.size≤b:=hat.imp id (fun h=>⟨_,h,Nat.le_succ _⟩)
 have hlt: ∀b,u.ownBlock=some b→X≤b∧b<wr.heap.size:=fun b hb=>hrow.lt b hb
 have h9:=hc9.size
 have h8s:=h8.size
 refine ⟨fun i hi=> ?_,?_,fun i hi=> ?_,by omega,by omega,fun q hq=> ?_⟩
 ·by_cases e:i<os.length
  ·rw [List.getElem_append_left e]
   exact ⟨(hall i e).1,((hall i e).2.later h8).put hc9 hat'⟩
  ·have e2:i=os.length:=by simp at hi;omega
   subst e2
   rw [List.getElem_append_right (Nat.le_refl _)]
   simp only [Nat.sub_self,List.getElem_cons_zero]
   rw [hl]
   exact ⟨hs.symm,LSt.new hn hX (fun b hb=>(hlt b hb).2) hc9 hat'⟩
 ·exact (h8.mono hX).trans (hc9.below (Nat.le_trans hX h8s) (fun q i hq e=>by have:=hlt q e.symm;omega))
 ·have h1:=hc i hi
  have h2:=(h8.cell (World.block_lt_of_cell? wr _ h1)).trans h1
  exact hc9.cell h2 (fun e=>hv.2.2 bv e.symm rfl)
 ·rcases hat with h | h
  ·exact hv.2.2 q (h.symm.trans hq)
  ·rw [h] at hq
   cases hq
   omega
structure OpV where
 kind:Int
 at':Int
 to:Int
 dev:Int
 ent:Int
 day:Int
 a:Option Addr
 c:Nat
 body:List Nat
 d1:Int
 d2:Int
def OpV.cells (y:OpV):List Value:=[.int .i64 y.kind,.int .i64 y.at',.int .i64 y.to,.int .i64 y.dev,.int .i64 y.ent,.int .i64 y.day,.slice y.a y.body.length y.c,.int .i64 y.d1,.int .i64 y.d2]
def OpAt (w:World) (b o:Nat) (y:OpV):Prop:=(y.a=none→y.c=0)∧BytesAt w y.a y.body∧ ∀j,j<9→w.cell? ⟨b,o+j,none⟩=y.cells[j]?
def OpsAt (w:World) (a:Option Addr) (ys:List OpV):Prop:=ys=[]∨ ∃b o,a=some ⟨b,o,none⟩∧ ∀i,(h:i<ys.length)→OpAt w b (o+i*9) ys[i]
theorem OpsAt.low {w w':World} {a:Option Addr} {ys:List OpV} (h:OpsAt w a ys) (hb:Below w.heap.size w w'):OpsAt w' a ys:=by
 rcases h with h | ⟨b,o,h1,h2⟩
 ·exact .inl h
 ·refine .inr ⟨b,o,h1,fun i hi=> ?_⟩
  obtain ⟨k1,k2,k3⟩:=h2 i hi
  refine ⟨k1,k2.later hb,fun j hj=> ?_⟩
  have h0:w.cell? ⟨b,o+i*9+j,none⟩=some (ys[i].cells[j]'hj):=(k3 j hj).trans (lE hj)
  rw [← k3 j hj,World.cell?,World.cell?,hb.block b (World.block_lt_of_cell? w _ h0)]
section
variable {w w':World} {G:Nat→Nat} {N P b t:Nat} {pks sds:List ByteArray} {gs ps:List Nat} {lss:Nat→List Lin} {nx:Nat→Nat} {vp vs vt:Value}
theorem WI.lowP (h:WI w G N P b t pks sds gs ps lss nx vp vs vt) {k:Nat} (hk:k≤P):G k=0:=by
 obtain ⟨B,hs⟩:=h.wd.sg 0 (by decide)
 have h1:=h.wd.glo 0 (by decide)
 have h2:=hs.lt
 rcases Nat.lt_or_eq_of_le hk with h3 | h3
 ·rcases h.wd.low k (by omega) with e | ⟨j,hj,e⟩
  ·exact e
  ·have:=h.wd.glo j hj;omega
 ·rw [h3];exact h.wd.rtag
theorem PlayO.belowP (h:WI w G N P b t pks sds gs ps lss nx vp vs vt) (ho:PlayO w w' G N P b t pks sds gs ps lss nx vp vs vt):Below P w w':=by
 obtain ⟨G',lss',nx',_,h2,_⟩:=ho
 exact h2.chg.below (Nat.le_of_lt h.wd.lt) (fun k i hk hm=>by have:=h.lowP (Nat.le_of_lt hk);omega)
def logAt (ls:List Lin) (i:Nat):List Ent:=match ls[i]? with
 | some l=>l.log
 | none=>[]
def sdAt (ls:List Lin) (i:Nat):Nat:=match ls[i]? with
 | some l=>l.sealed'
 | none=>0
theorem logAt_eq {ls:List Lin} {i:Nat} (h:i<ls.length):logAt ls i=ls[i].log:=by
 unfold logAt
 rw [lE h]
theorem sdAt_eq {ls:List Lin} {i:Nat} (h:i<ls.length):sdAt ls i=ls[i].sealed':=by
 unfold sdAt
 rw [lE h]
theorem vec_at {ls:List Lin} {i:Nat} (h:i<ls.length):(vecOf ls).getD i 0=sdAt ls i:=by
 unfold vecOf
 rw [lD,List.getElem?_map,lE h,sdAt_eq h]
 rfl
theorem WI.sd (h:WI w G N P b t pks sds gs ps lss nx vp vs vt) {i j:Nat} (hi:i<3) (hj:j<3):sdAt (lss i) j≤(logAt (lss i) j).length∧(logAt (lss i) j).length≤4096:=by
 have hl:j<(lss i).length:=by rw [h.len i hi];exact hj
 rw [sdAt_eq hl,logAt_eq hl]
 exact ⟨((h.good i hi).good j hl).sealed,((h.good i hi).good j hl).most⟩
theorem KeptS.at {ls ls':List Lin} (h:KeptS ls ls') {j:Nat} (hj:j<ls.length):sdAt ls j≤sdAt ls' j∧(logAt ls' j).take (sdAt ls j)=(logAt ls j).take (sdAt ls j):=by
 have hj':j<ls'.length:=by rw [h.len];exact hj
 obtain ⟨h1,h2,_⟩:=h.line j hj hj'
 rw [sdAt_eq hj,sdAt_eq hj',logAt_eq hj,logAt_eq hj']
 exact ⟨h1,h2⟩
theorem sameAllE_refl (es:List Ent):sameAllE es es=true:=by
 unfold sameAllE
 rw [agreeE_good (fun k h1 h2=>(sameE_iff _ _).2 rfl),decide_eq_true rfl]
 rfl
theorem WI.vector (h:WI w G N P b t pks sds gs ps lss nx vp vs vt) {i:Nat} (hi:i<3):Calls Tryz.prog 65 #[.pointer (some ⟨ps.getD i 0,0,none⟩)] w fun e w'=> ∃bl:Nat,e= .returned (.slice (some ⟨bl,0,none⟩) 3 3)∧(∀j,j<3→w'.cell? ⟨bl,j,none⟩=some (.int .i64 ((sdAt (lss i) j:Nat):Int)))∧w.heap.size≤bl∧bl<w'.heap.size∧Below w.heap.size w w':=by
 refine (vector_any w (h.wd.st i hi) (by rw [h.len i hi];decide)).mono ?_
 rintro e w2 ⟨bl,L,rfl,hL,ho,hbl,hb⟩
 rw [h.len i hi] at hL
 subst hL
 have hlv:(vecOf (lss i)).length=3:=by unfold vecOf;rw [List.length_map,h.len i hi]
 obtain ⟨_,a9,cap9,he9,_,_,hI9,_⟩:=ints_of_own ho
 rw [hlv] at he9
 injection he9 with e1 e2 e3
 have hc: ∀j,j<3→w2.cell? ⟨bl,j,none⟩=some (.int .i64 ((sdAt (lss i) j:Nat):Int)):=fun j hj=>by
  rcases hI9 with h1 | ⟨b9,o9,h1,h2⟩
  ·rw [h1] at hlv;simp at hlv
  ·rw [h1] at e1
   cases e1
   have h3:=h2 j (by rw [hlv];exact hj)
   rw [Nat.zero_add,vec_at (by rw [h.len i hi];exact hj)] at h3
   exact h3
 exact ⟨bl,rfl,hc,hbl,World.block_lt_of_cell? w2 _ (hc 0 (by decide)),hb⟩
theorem WI.log (h:WI w G N P b t pks sds gs ps lss nx vp vs vt) {i d:Nat} (hi:i<3) (hd:d<3):Calls Tryz.prog 63 #[.pointer (some ⟨ps.getD i 0,0,none⟩),.int .i64 (d:Int)] w fun e w'=> ∃bl L:Nat,e= .returned (.slice (some ⟨bl,0,none⟩) L L)∧(logAt (lss i) d).length=L∧NLog w' w.heap.size (some ⟨bl,0,none⟩) (logAt (lss i) d)∧Below w.heap.size w w':=by
 have hl:d<(lss i).length:=by rw [h.len i hi];exact hd
 have hm:=((h.good i hi).miss ((lss i)[d]) (List.getElem_mem hl))
 refine (log_any d hl (by omega) hm.2.2.1 w (h.wd.st i hi) (by rw [h.len i hi];decide)).mono ?_
 rintro e w2 ⟨bl,L,xs,rfl,hL,hxs,hr,hbl,hn,hb⟩
 rw [logAt_eq hl]
 exact ⟨bl,L,rfl,hL,⟨bl,L,xs,rfl,hxs,hr,hbl,fun x hx=>(hn x hx).mono (Nat.le_succ _)⟩,hb⟩
theorem proves_small {B H:Int} {pk:List Nat} {f:Frk} (h:ProvesF B H pk f):(f.l0.length≤1000000∧f.l1.length≤1000000)∧((∀e ∈ f.l0,e.body.length≤1000000000)∧ ∀e ∈ f.l1,e.body.length≤1000000000)∧(f.h0.ps.length≤100000000∧f.h0.qs.length≤100000000)∧(f.h1.ps.length≤100000000∧f.h1.qs.length≤100000000):=by
 have hb: ∀{x:Hd} {es:List Ent},CoversH x es→ ∀e ∈ es,e.body.length≤1000000000:=fun hc e he=>by
  obtain ⟨j,hj,rfl⟩:=List.getElem_of_mem he
  have:=(hc.log j hj).2.2.1.body
  omega
 have hs: ∀{x:Hd},SignedH B H pk x→x.ps.length≤100000000∧x.qs.length≤100000000:=fun hs=>by
  obtain ⟨⟨hv,_,_,_,h1,_,h2,_⟩,_⟩:=hs.2
  obtain ⟨b,t,rfl,rfl,hb,_,ht⟩:=sv_of hv
  rw [List.length_map,Int.toNat_natCast] at h2
  rw [List.length_map] at h1
  have:=count_max hb
  omega
 have:=h.cov0.most
 have:=h.cov1.most
 exact ⟨⟨by omega,by omega⟩,⟨hb h.cov0,hb h.cov1⟩,hs h.sig0,hs h.sig1⟩
theorem WI.forks (h:WI w G N P b t pks sds gs ps lss nx vp vs vt) {i:Nat} (hi:i<3):Calls Tryz.prog 66 #[.pointer (some ⟨ps.getD i 0,0,none⟩)] w fun e w'=> ∃(v:Value) (xs:List FV),e= .returned v∧w'.ownsRow w.heap.size 130 15 v xs.length (fvs xs)∧(xs.length≤3∧(∀(k:Nat) (hk:k<xs.length),∃d:Nat,d<3∧xs[k].dev=(d:Int)∧forkE (b:Int) (t:Int) (nb (pks.getD d ByteArray.empty)) xs[k].f=true∧xs[k].l0.length≤1000000∧xs[k].l1.length≤1000000)∧ ∀(k:Nat) (hk:k+1<xs.length),xs[k].dev<xs[k+1].dev)∧(∀x ∈ xs,x.ok w')∧Below w.heap.size w w':=by
 have hln:=h.len i hi
 have hg:=h.good i hi
 refine (forks_any (by rw [hln];decide) (fun l hl f hf=> ?_) w (h.wd.st i hi)).mono ?_
 ·obtain ⟨j,hj,rfl⟩:=List.getElem_of_mem hl
  exact proves_small ((hg.good j hj).fork f hf).2
 ·rintro e w2 ⟨v,xs,rfl,ho,hm,hok,hb⟩
  obtain ⟨s1,s2⟩:=forks_spec hg (lss i).length (Nat.le_refl _)
  rw [List.take_length] at s1 s2
  rw [← hm] at s1 s2
  refine ⟨v,xs,rfl,ho,⟨?_,fun k hk=> ?_,fun k hk=> ?_⟩,hok,hb⟩
  ·have h1:=congrArg List.length hm
   have h2:=List.length_filterMap_le Lin.fork (lss i)
   rw [List.length_map] at h1
   omega
  ·obtain ⟨j,hj,_,h1,_,h3⟩:=s1 _ (List.mem_map_of_mem (List.getElem_mem hk))
   have hj3:j<3:=by omega
   rw [h.pub i hi j hj3 hj] at h3
   have h4:=proves_small h3
   exact ⟨j,hj3,h1,proves_fork h3,h4.1.1,h4.1.2⟩
  ·have h1:=List.pairwise_iff_getElem.1 s2 k (k+1) (by rw [List.length_map];omega) (by rw [List.length_map];omega) (Nat.lt_succ_self _)
   rw [List.getElem_map,List.getElem_map] at h1
   exact h1
end
end Go.Proofs.YtgfdghoaodlcdaaGreatDoor
