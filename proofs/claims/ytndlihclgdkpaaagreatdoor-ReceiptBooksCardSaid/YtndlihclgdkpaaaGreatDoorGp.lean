/- Texts Qvb, Opr, merged. -/
import Derived.OpenShut
import Derived.Test.YtndlihclgdkpaaaGreatDoorQis
import Derived.Test.YtndlihclgdkpaaaGreatDoorGf
import Derived.Test.YtndlihclgdkpaaaGreatDoorGi
import Derived.Test.YtndlihclgdkpaaaGreatDoorGk
/- Each receipt of a batch is valid and verified (plain). -/
set_option linter.unusedVariables false
set_option linter.unusedSimpArgs false
open Go.Lib (hid)
namespace Go.Proofs.YtndlihclgdkpaaaGreatDoor
open Go.Proofs.YtndlihclgdkpaaaGreatDoor.One

theorem secret_lt (seed:List Nat) (i:Nat): ∀y ∈ secret seed i,y<256:=Sha.sum_lt _
theorem sigParts_lt (b:Nat) (seed:List Nat) (i:Nat) (dg:List Nat): ∀p ∈ sigParts b seed i dg,∀y ∈ p,y<256:=fun p hp=>by
 obtain ⟨j,_,rfl⟩:=List.mem_map.1 hp
 exact chain_lt _ _ _ _ (secret_lt _ _)
theorem mroot_lt: ∀(h:Nat) (l:List (List Nat)),l.length=2 ^ h→(∀x ∈ l,∀y ∈ x,y<256)→ ∀y ∈ Mrk.root h l,y<256
 | 0,l,hl,h32=>by
   match l,hl with
   | [x],_=>exact h32 x (List.mem_cons_self ..)
 | h+1,l,hl,h32=>by
   rw [Mrk.root]
   exact Mrk.node_lt _ _
theorem mpath_lt: ∀(h i:Nat) (l:List (List Nat)),l.length=2 ^ h→(∀x ∈ l,∀y ∈ x,y<256)→ ∀q ∈ Mrk.path h i l,∀y ∈ q,y<256
 | 0,i,l,hl,h32,q,hq=>by simp [Mrk.path] at hq
 | h+1,i,l,hl,h32,q,hq=>by
   rw [Nat.pow_succ] at hl
   have hT:(l.take (2 ^ h)).length=2 ^ h:=by rw [List.length_take];omega
   have hD:(l.drop (2 ^ h)).length=2 ^ h:=by rw [List.length_drop];omega
   have hT32: ∀x ∈ l.take (2 ^ h),∀y ∈ x,y<256:=fun x hx=>h32 x (List.mem_of_mem_take hx)
   have hD32: ∀x ∈ l.drop (2 ^ h),∀y ∈ x,y<256:=fun x hx=>h32 x (List.mem_of_mem_drop hx)
   rw [Mrk.path] at hq
   by_cases hi:i<2 ^ h
   ·rw [if_pos hi] at hq
    rcases List.mem_append.1 hq with h1 | h1
    ·exact mpath_lt h i _ hT hT32 q h1
    ·rw [List.mem_singleton.1 h1];exact mroot_lt h _ hD hD32
   ·rw [if_neg hi] at hq
    rcases List.mem_append.1 hq with h1 | h1
    ·exact mpath_lt h _ _ hD hD32 q h1
    ·rw [List.mem_singleton.1 h1];exact mroot_lt h _ hT hT32
theorem sigPath_lt (b:Nat) (seed:List Nat) (t i:Nat): ∀q ∈ sigPath b seed t i,∀y ∈ q,y<256:=mpath_lt _ _ _ (sigLeaves_len _ _ _) (fun x hx=>by
 obtain ⟨j,_,rfl⟩:=List.mem_map.1 hx
 exact Sha.sum_lt _)
theorem nbs_strB {l:List (List Nat)} (h: ∀x ∈ l,∀y ∈ x,y<256):(l.map strB).map nb=l:=by
 rw [List.map_map]
 refine (List.map_congr_left fun x hx=> ?_).trans (List.map_id l)
 exact nb_strB (h x hx)
theorem strB_sizeL {l:List Nat} (h: ∀y ∈ l,y<256):(strB l).size=l.length:=by rw [← nb_length,nb_strB h]
theorem leavesP_len (hol day ser L:Nat) (ps:List Pr):(leavesP hol day ser L ps).length=L:=by simp [leavesP]
theorem leavesP_get {hol day ser L k:Nat} {ps:List Pr} (hk:k<L):(leavesP hol day ser L ps).getD k []=leafR (baseR hol day ser L k (ps.getD k zeroPr)):=by
 rw [lD,lE (by rw [leavesP_len];exact hk)]
 simp [leavesP]
theorem leavesP_mem {hol day ser L:Nat} {ps:List Pr}: ∀x ∈ leavesP hol day ser L ps,x.length=32∧ ∀y ∈ x,y<256:=fun x hx=>by
 obtain ⟨i,_,rfl⟩:=List.mem_map.1 hx
 exact ⟨Mrk.leaf_len _,Sha.sum_lt _⟩
def outP (b t:Nat) (sd:List Nat) (next hol day ser:Nat) (ps:List Pr):Nat→Rc:=outR hol day ser ps.length ps (strB (Mrk.rootM (leavesP hol day ser ps.length ps))) (next:Int) ((sigParts b sd next (batchR (Mrk.rootM (leavesP hol day ser ps.length ps)) ps.length)).map strB) ((sigPath b sd t next).map strB) (pthR hol day ser ps.length ps)
theorem batchP_out (b t:Nat) (sd:List Nat) (next hol day ser:Nat) (ps:List Pr):batchP b t sd next hol day ser ps=(List.range ps.length).map (outP b t sd next hol day ser ps):=rfl
theorem outP_valid {b t:Nat} (hb:Bits b) (ht:t≤8) (sd:List Nat) {next hol day ser:Nat} {ps:List Pr} {k:Nat} (hk:k<ps.length) (hL:ps.length≤256) (h1:hol≤11) (h2:day≤999999) (h3:ser+(ps.length - 1)≤1099511627776) (hn:next<2 ^ t) (hg:allGood ps=true):ValidR (outP b t sd next hol day ser ps k):=by
 have hgp:GoodP (ps.getD k zeroPr).v (ps.getD k zeroPr).s (ps.getD k zeroPr).i (ps.getD k zeroPr).z:=by
  rw [lD,lE hk]
  exact goodP_iff.1 ((List.all_eq_true.1 hg) _ (List.getElem_mem hk))
 have hr:(Mrk.rootM (leavesP hol day ser ps.length ps)).length=32:=Mrk.rootM_len (fun x hx=>(leavesP_mem x hx).1)
 have hrl: ∀y ∈ Mrk.rootM (leavesP hol day ser ps.length ps),y<256:=Mrk.rootM_lt (fun x hx=>(leavesP_mem x hx).2)
 have h256:2 ^ t≤256:=Nat.pow_le_pow_right (n:=2) (by decide) ht
 refine ⟨by show (0:Int)≤(hol:Int);omega,by show (hol:Int)≤11;omega,hgp,by show (0:Int)≤(day:Int);omega,by show (day:Int)≤999999;omega,by show (0:Int)≤((ser+k:Nat):Int);omega,by show ((ser+k:Nat):Int)≤1099511627776;omega,by show (1:Int)≤(ps.length:Int);omega,by show (ps.length:Int)≤256;omega,by show (0:Int)≤(k:Int);omega,by show (k:Int)≤(ps.length:Int) - 1;omega,?_,?_,?_,?_,?_,?_,?_,by show (0:Int)≤(next:Int);omega,by show (next:Int)≤255;omega⟩
 ·show (strB _).size=32
  rw [strB_sizeL hrl,hr]
 ·show ((Mrk.pathM k (leavesP hol day ser ps.length ps)).map strB).length≤8
  rw [List.length_map]
  exact Mrk.pathM_len 8 _ _ (by rw [leavesP_len];exact hL)
 ·intro s hs
  obtain ⟨x,hx,rfl⟩:=List.mem_map.1 hs
  rw [strB_sizeL (Mrk.pathM_lt ps.length _ k (leavesP_len _ _ _ _ _) (fun x hx=>(leavesP_mem x hx).2) x hx)]
  exact Mrk.pathM_32 ps.length _ k (leavesP_len _ _ _ _ _) (fun x hx=>(leavesP_mem x hx).1) x hx
 ·show ((sigPath b sd t next).map strB).length≤8
  rw [List.length_map,sigPath_len]
  exact ht
 ·intro s hs
  obtain ⟨x,hx,rfl⟩:=List.mem_map.1 hs
  rw [strB_sizeL (sigPath_lt b sd t next x hx)]
  exact sigPath_32 b sd t next x hx
 ·show ((sigParts b sd next _).map strB).length≤300
  rw [List.length_map,sigParts_len b hb _ _ _ (batchR_len _ _)]
  have:=count_le (n:=32) hb (Nat.le_refl _)
  omega
 ·intro s hs
  obtain ⟨x,hx,rfl⟩:=List.mem_map.1 hs
  rw [strB_sizeL (sigParts_lt b sd next _ x hx)]
  exact sigParts_32 b sd next _ x hx
theorem outP_verified {b t:Nat} (hb:Bits b) (hb4:b≤4) (ht:t≤8) (sd:List Nat) {next hol day ser:Nat} {ps:List Pr} {k:Nat} (hk:k<ps.length) (hL:ps.length≤256) (h1:hol≤11) (h2:day≤999999) (h3:ser+(ps.length - 1)≤1099511627776) (hn:next<2 ^ t) (hg:allGood ps=true):verR (b:Int) (t:Int) (sigPub b sd t) (outP b t sd next hol day ser ps k)=true:=by
 have hv:=outP_valid hb ht sd hk hL h1 h2 h3 hn hg
 have hrl: ∀y ∈ Mrk.rootM (leavesP hol day ser ps.length ps),y<256:=Mrk.rootM_lt (fun x hx=>(leavesP_mem x hx).2)
 unfold verR
 rw [validR_iff.2 hv,Bool.true_and,Bool.and_eq_true]
 refine ⟨decide_eq_true ?_,decide_eq_true ?_⟩
 ·show Mrk.climbM (leafR (baseR hol day ser ps.length k (ps.getD k zeroPr))) ((k:Int)).toNat ((ps.length:Int)).toNat (((Mrk.pathM k (leavesP hol day ser ps.length ps)).map strB).map nb)=some (nb (strB (Mrk.rootM (leavesP hol day ser ps.length ps))))
  rw [nb_strB hrl,nbs_strB (Mrk.pathM_lt ps.length _ k (leavesP_len _ _ _ _ _) (fun x hx=>(leavesP_mem x hx).2)),Int.toNat_natCast,Int.toNat_natCast,← leavesP_get hk]
  exact Mrk.climbM_path ps.length _ k (leavesP_len _ _ _ _ _) hk
 ·show SigAcc (b:Int) (t:Int) (sigPub b sd t) (batchR (nb (strB (Mrk.rootM (leavesP hol day ser ps.length ps)))) ((ps.length:Int)).toNat) (next:Int) (((sigParts b sd next (batchR (Mrk.rootM (leavesP hol day ser ps.length ps)) ps.length)).map strB).map nb) (((sigPath b sd t next).map strB).map nb)
  rw [nb_strB hrl,nbs_strB (sigParts_lt _ _ _ _),nbs_strB (sigPath_lt _ _ _ _),Int.toNat_natCast]
  exact sigAcc_sign b hb hb4 sd t next ht hn _ (batchR_len _ _)
end Go.Proofs.YtndlihclgdkpaaaGreatDoor
namespace Go.Proofs.YtndlihclgdkpaaaGreatDoor
open Go.ChangeShapes Go.WideShapes Go.ChangeAt Go.RowKit

theorem cellsBoo: Tryz.prog.cellsOf 4=1:=by kernel_rfl
theorem open_strsC {H:Type} {enc:TypeId × Value→H} {W:World} {fuel:Nat} {cs:List Value} {x:DataW H × List MemPlace}
    (hf:DataW.trod enc Tryz.prog W 0 (fun _=>true) true fuel 43 cs=some x):
    ∃(a:Option Addr) (cap:Nat) (ss:List ByteArray),cs=[.slice a ss.length cap]∧ss.length≤cap∧ss.length<9223372036854775808∧StrsAt W a ss:=by
 rcases open_strings Tryz.underlying43 Tryz.underlying9 cellsStr hf with ⟨hcs,_⟩ | ⟨ad,l,c,zs,hcs,_,hlc,_⟩
 ·subst hcs
  obtain ⟨ss,h1,h2,h3⟩:=open_strs hf
  exact ⟨_,_,ss,by rw [h1],by omega,by omega,h3⟩
 ·subst hcs
  obtain ⟨ss,h1,h2,h3⟩:=open_strs hf
  exact ⟨_,_,ss,by rw [h1],by omega,by omega,h3⟩
theorem cellsSigC: Tryz.prog.cellsOf 45 =3:=by kernel_rfl
theorem Tryz.fieldsSigC:(match Tryz.prog.underlying 45 with | some (.struct fields)=>fields.toList.map (fun f=>(f.type,f.offset)) | _=>[])=[(3,0),(43,1),(43,2)]:=by kernel_rfl
set_option maxRecDepth 100000 in
set_option maxHeartbeats 1000000 in
theorem open_sigC {H:Type} {enc:TypeId × Value→H} {W:World} {n:Nat} {cs:List Value} {x:DataW H × List MemPlace} (h:DataW.trod enc Tryz.prog W 0 (fun _=>true) true n 45 cs=some x): ∃(idx:Int) (a1:Option Addr) (c1:Nat) (ps:List ByteArray) (a2:Option Addr) (c2:Nat) (qs:List ByteArray),cs=[.int .i64 idx,.slice a1 ps.length c1,.slice a2 qs.length c2]∧ps.length<9223372036854775808∧StrsAt W a1 ps∧qs.length<9223372036854775808∧StrsAt W a2 qs:=by
 have hF:= Tryz.fieldsSigC
 cases hu: Tryz.prog.underlying 45 with
 | none=>rw [hu] at hF;simp at hF
 | some td=>
   rw [hu] at hF
   cases td with
   | struct fields=>
     obtain ⟨xs,n,_,_,hl,hlen,hf⟩:=DataW.trod_struct hu h
     rw [cellsSigC] at hl
     obtain ⟨c0,c1,c2,rfl⟩: ∃c0 c1 c2,cs=[c0,c1,c2]:=by
      match cs,hl with
      | [c0,c1,c2],_=>exact ⟨c0,c1,c2,rfl⟩
     obtain ⟨fl⟩:=fields
     match fl,hF with
     | [f0,f1,f2],hF=>
       simp only [List.map_cons,List.map_nil,List.cons.injEq,Prod.mk.injEq,and_true] at hF
       obtain ⟨⟨t0,o0⟩,⟨t1,o1⟩,⟨t2,o2⟩⟩:=hF
       match xs,hlen with
       | [y0,y1,y2],_=>
         have h0:=hf 0 f0 rfl
         rw [t0,o0,cellsInt] at h0
         have h1:=hf 1 f1 rfl
         rw [t1,o1,cellsStrs] at h1
         have h2:=hf 2 f2 rfl
         rw [t2,o2,cellsStrs] at h2
         obtain ⟨n0,e0,_,_⟩:=DataW.trod_int Tryz.underlying3 h0
         obtain ⟨a1,k1,n1,e1,l1,m1,s1⟩:=open_strsC h1
         obtain ⟨a2,k2,n2,e2,l2,m2,s2⟩:=open_strsC h2
         simp [RcV.cells] at e0 e1 e2
         exact ⟨n0,a1,k1,n1,a2,k2,n2,by rw [e0,e1,e2],m1,s1,m2,s2⟩
   | _=>simp at hF
theorem cellsPc: Tryz.prog.cellsOf 42 =2:=by kernel_rfl
theorem cellsRc: Tryz.prog.cellsOf 47 =14:=by kernel_rfl
structure OpB where
 x:RcV
 drop:Bool
def OpB.cells (y:OpB):List Value:=y.x.cells++[.bool y.drop]
def OpsB (w:World) (a:Option Addr) (ys:List OpB):Prop:=(ys=[]∨ ∃b o,a=some ⟨b,o,none⟩∧ ∀k (h:k<ys.length) j,j<15→w.cell? ⟨b,o+k*15+j,none⟩=ys[k].cells[j]?)∧ ∀y ∈ ys,y.x.ok w∧y.x.r.path.length≤y.x.c1
theorem OpsB.later {w w':World} {a:Option Addr} {ys:List OpB} (h:OpsB w a ys) (hb:Below w.heap.size w w'):OpsB w' a ys:=by
 refine ⟨?_,fun y hy=>⟨(h.2 y hy).1.later hb,(h.2 y hy).2⟩⟩
 rcases h.1 with h | ⟨b,o,e,h⟩
 ·exact .inl h
 ·refine .inr ⟨b,o,e,fun k hk j hj=> ?_⟩
  have h1:=h k hk j hj
  have h2:ys[k].cells[j]? =some (ys[k].cells[j]'hj):=lE hj
  rw [h2] at h1 ⊢
  exact (hb.cell (World.block_lt_of_cell? w _ h1)).trans h1
end Go.Proofs.YtndlihclgdkpaaaGreatDoor
