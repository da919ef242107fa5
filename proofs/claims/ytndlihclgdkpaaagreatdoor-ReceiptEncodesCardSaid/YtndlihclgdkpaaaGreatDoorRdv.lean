/- wire.readValue, walked. -/
import Derived.Test.YtndlihclgdkpaaaGreatDoorGi
import Derived.Test.YtndlihclgdkpaaaGreatDoorRdn
set_option linter.unusedVariables false
set_option linter.unusedSimpArgs false
open Go.Lib (hid)
set_option maxRecDepth 100000
namespace Go.Proofs.YtndlihclgdkpaaaGreatDoor
open Go.RowKit
open Kit (Chg)
open Sha (v)
open Go.Proofs.YtndlihclgdkpaaaGreatDoor.One

theorem one_cells {w:World} {R:Nat} {x:Value} {T:TypeId} (h:w.heap[R]? =some (.cells #[x] T (0,0))):w.cell? ⟨R,0,none⟩=some x∧w.frozen? ⟨R,0,none⟩=false:=⟨cr h,frozen_of_row _ _ _ _ _ h⟩
theorem one_put {w:World} {R:Nat} {x:Value} {T:TypeId} (h:w.heap[R]? =some (.cells #[x] T (0,0))) (y:Value):(w.setCell ⟨R,0,none⟩ y).heap[R]? =some (.cells #[y] T (0,0)):=heap_setCell_same w R 0 _ _ _ h
theorem heap_put_ne {w:World} {B R i:Nat} {y:Value} (h:R≠B):(w.setCell ⟨B,i,none⟩ y).heap[R]? =w.heap[R]? :=Below.heap_setCell _ _ _ R (by show R≠B;exact h)
theorem RdRow.ne {w:World} {p:Nat} {ad:Option Addr} {n c:Nat} {off last er:Int} (h:RdRow w p ad n c off last er) {B i:Nat} (hB:p≠B) (y:Value):RdRow (w.setCell ⟨B,i,none⟩ y) p ad n c off last er:=(heap_put_ne hB).trans h
theorem rvU_keep (p St Rb R:Nat) (ad:Option Addr) (n c:Nat) (off last start:Int) (z:Int) (u:FrameMode) (w:World) (hr:RdRow w p ad n c off last 0) (h1:w.heap[St]? =some (.cells #[.int .i64 start] 3 (0,0))) (h2:w.heap[Rb]? =some (.cells #[.pointer (some ⟨p,0,none⟩)] 171 (0,0))) (h3:w.heap[R]? =some (.cells #[.int .u64 z] 167 (0,0))) (hne:p≠St∧p≠Rb∧p≠R∧St≠R∧Rb≠R):
    CallsD Tryz.prog 301 #[.pointer (some ⟨St,0,none⟩),.pointer (some ⟨Rb,0,none⟩),.pointer (some ⟨R,0,none⟩)] u w fun e u' w'=>u'=u∧(e= .returned (.tuple #[])∧RdRow w' p ad n c off start 0∧w'.heap[R]? =some (.cells #[.int .u64 z] 167 (0,0))∧Chg (fun q _=>q=p∨q=R) w w'):=by
 obtain ⟨c0,c1,c2,c3,cf⟩:=hr.cells
 obtain ⟨d1,_⟩:=one_cells h1
 obtain ⟨d2,_⟩:=one_cells h2
 obtain ⟨d3,f3⟩:=one_cells h3
 have f1:=cf 1
 have f2:=cf 2
 have HR:=hid hr
 have H1:=hid h1
 have H2:=hid h2
 have H3:=hid h3
 have HNE:=hid hne
 have n1:St≠p:=fun h=>hne.1 h.symm
 have n2:Rb≠p:=fun h=>hne.2.1 h.symm
 have n3:R≠p:=fun h=>hne.2.2.1 h.symm
 clear hr h1 h2 h3 hne cf
 go_enter_d Tryz.func301,Tryz.ntmps301
 go_wp2_with fail
 go_end0
 exact ⟨rfl,HR.o.put2 _,(heap_put_ne n3).trans H3.o,(Chg.refl _ _).setCell _ (.inl rfl)⟩
theorem rvU_drop (p St Rb R:Nat) (ad:Option Addr) (n c:Nat) (off last start er:Int) (z:Int) (her:er≠0) (u:FrameMode) (w:World) (hr:RdRow w p ad n c off last er) (h1:w.heap[St]? =some (.cells #[.int .i64 start] 3 (0,0))) (h2:w.heap[Rb]? =some (.cells #[.pointer (some ⟨p,0,none⟩)] 171 (0,0))) (h3:w.heap[R]? =some (.cells #[.int .u64 z] 167 (0,0))) (hne:p≠St∧p≠Rb∧p≠R∧St≠R∧Rb≠R):
    CallsD Tryz.prog 301 #[.pointer (some ⟨St,0,none⟩),.pointer (some ⟨Rb,0,none⟩),.pointer (some ⟨R,0,none⟩)] u w fun e u' w'=>u'=u∧(e= .returned (.tuple #[])∧RdRow w' p ad n c start start er∧w'.heap[R]? =some (.cells #[.int .u64 0] 167 (0,0))∧Chg (fun q _=>q=p∨q=R) w w'):=by
 obtain ⟨c0,c1,c2,c3,cf⟩:=hr.cells
 obtain ⟨d1,_⟩:=one_cells h1
 obtain ⟨d2,_⟩:=one_cells h2
 obtain ⟨d3,f3⟩:=one_cells h3
 have f1:=cf 1
 have f2:=cf 2
 have HR:=hid hr
 have H1:=hid h1
 have H2:=hid h2
 have H3:=hid h3
 have HNE:=hid hne
 have n1:St≠p:=fun h=>hne.1 h.symm
 have n2:Rb≠p:=fun h=>hne.2.1 h.symm
 have n3:R≠p:=fun h=>hne.2.2.1 h.symm
 have hb:(er != 0)=true:=by rw [bne_iff_ne];exact her
 clear hr h1 h2 h3 hne cf
 go_enter_d Tryz.func301,Tryz.ntmps301
 go_wp2_with fail
 go_end0
 exact ⟨rfl,((HR.o.put2 _).put1 _).ne HNE.o.2.2.1 _,one_put (((heap_put_ne n3).trans (heap_put_ne n3)).trans H3.o) _,(((Chg.refl _ _).setCell _ (.inl rfl)).setCell _ (.inl rfl)).setCell _ (.inr rfl)⟩
theorem rvU_bad (p:Nat) (ad:Option Addr) (n c:Nat) (off last er:Int) (her:er≠0) (dv:Value) (w:World) (hr:RdRow w p ad n c off last er):
    Calls Tryz.prog 259 #[.pointer (some ⟨p,0,none⟩),dv] w fun e w'=>e= .returned (.int .u64 0)∧Below w.heap.size w w':=by
 have HR:=hid hr
 have hb:(er != 0)=true:=by rw [bne_iff_ne];exact her
 have hmf: ∀(fn:Fn) (first cap:Array Value) (w:World),(Instr.makeFunc fn first cap).run Tryz.prog w= .ok (.func fn first cap) w:=fun _ _ _ _=>rfl
 clear hr her
 go_enter_defers Tryz.func259,Tryz.ntmps259
 go_upto_region 1 with fail
 refine wp_over (fun V=>Hid (V.heap[w.heap.size]? =some (.cells #[.pointer (some ⟨p,0,none⟩)] 171 (0,0)))∧Hid (V.heap[w.heap.size+1]? =some (.cells #[.int .u64 0] 167 (0,0)))∧Hid (Below w.heap.size w V)∧Hid (V.heap.size=w.heap.size+2)) ⟨two_rows1,two_rows2,two_below,two_size⟩ ?_
 rintro W ⟨HB1,HB2,HB,HWS⟩
 have HRW:Hid (RdRow W p ad n c off last er):=hid (HR.o.later HB.o HR.o.lt)
 obtain ⟨c0,c1,c2,c3,cf⟩:=HRW.o.cells
 obtain ⟨b0,_⟩:=one_cells HB1.o
 obtain ⟨r0,rf⟩:=one_cells HB2.o
 obtain ⟨Rb,hRb⟩:=ex_eq w.heap.size
 obtain ⟨R,hR⟩:=ex_eq (w.heap.size+1)
 have HRR:=hid hR
 rw [hR] at HB2 r0 rf ⊢
 rw [hRb] at HB1 b0 ⊢
 clear cf hRb hR
 go_wp2_with fail
 have HF:Hid ((W.setCell ⟨R,0,none⟩ (.int .u64 0)).heap[R]? =some (.cells #[.int .u64 0] 167 (0,0))):=hid (one_put HB2.o _)
 have HBL:Hid (Below w.heap.size w (W.setCell ⟨R,0,none⟩ (.int .u64 0))):=hid (HB.o.setCell (by show w.heap.size≤R;have:=HRR.o;omega) _)
 have hc:=(one_cells HF.o).1
 simp only [bodyPostD,Leaves]
 refine ⟨.int .u64 0,by simp [results,Tryz.results259,go_sem,hc],rfl,HBL.o⟩
def RvU (OUT:Int→Int→Int→World→World→Prop) (p:Nat) (ad:Option Addr) (n c:Nat) (o:Int) (w:World) (e:Ending) (w':World):Prop:= ∃(z:Int) (er off':Int) (V V':World),Below w.heap.size w V∧OUT z er off' V V'∧Chg (RdM p) V V'∧Chg (fun q _=>q<V.heap.size) V' w'∧Chg (RdM p) w w'∧((er=0∧e= .returned (.int .u64 z)∧RdRow w' p ad n c off' o 0)∨(er≠0∧e= .returned (.int .u64 0)∧RdRow w' p ad n c o o er))
set_option maxHeartbeats 1000000 in
theorem rvU_run (OUT:Int→Int→Int→World→World→Prop) (p:Nat) (ad:Option Addr) (n c:Nat) (o last:Int) (w:World) (hr:RdRow w p ad n c o last 0)
    (hD: ∀V,Below w.heap.size w V→RdRow V p ad n c o last 0→Calls Tryz.prog 260 #[.pointer (some ⟨p,0,none⟩)] V fun e V'=> ∃(z:Int) (er off':Int),e= .returned (.tuple #[.int .u64 z,.int .i64 er])∧RdRow V' p ad n c off' last 0∧Chg (RdM p) V V'∧OUT z er off' V V'):
    Calls Tryz.prog 259 #[.pointer (some ⟨p,0,none⟩),.func (.func 260) #[.pointer (some ⟨p,0,none⟩)] #[]] w fun e w'=>RvU OUT p ad n c o w e w':=by
 have HR:=hid hr
 have HD:=hid hD
 have hmf: ∀(fn:Fn) (first cap:Array Value) (w:World),(Instr.makeFunc fn first cap).run Tryz.prog w= .ok (.func fn first cap) w:=fun _ _ _ _=>rfl
 clear hr hD
 go_enter_defers Tryz.func259,Tryz.ntmps259
 go_upto_region 1 with fail
 refine wp_over (fun V=>Hid (V.heap[w.heap.size]? =some (.cells #[.pointer (some ⟨p,0,none⟩)] 171 (0,0)))∧Hid (V.heap[w.heap.size+1]? =some (.cells #[.int .u64 0] 167 (0,0)))∧Hid (Below w.heap.size w V)∧Hid (V.heap.size=w.heap.size+2)) ⟨two_rows1,two_rows2,two_below,two_size⟩ ?_
 rintro W ⟨HB1,HB2,HB,HWS⟩
 have HRW:Hid (RdRow W p ad n c o last 0):=hid (HR.o.later HB.o HR.o.lt)
 obtain ⟨c0,c1,c2,c3,cf⟩:=HRW.o.cells
 obtain ⟨b0,_⟩:=one_cells HB1.o
 obtain ⟨r0,rf⟩:=one_cells HB2.o
 obtain ⟨Rb,hRb⟩:=ex_eq w.heap.size
 obtain ⟨R,hR⟩:=ex_eq (w.heap.size+1)
 have HRR:=hid (And.intro hRb hR)
 rw [hR] at HB2 r0 rf ⊢
 rw [hRb] at HB1 b0 ⊢
 clear cf hRb hR
 go_upto_region 5 with fail
 refine wp_over (fun V=>Hid (V.heap[W.heap.size]? =some (.cells #[.int .i64 o] 3 (0,0)))∧Hid (V.heap.size=W.heap.size+1)∧Hid (Below W.heap.size W V)) ⟨heap_alloc_new _ _,by show _=_;simp,(Below.refl _ _).alloc (Nat.le_refl _) _⟩ ?_
 rintro Y ⟨HB3,HYS,HYB⟩
 obtain ⟨St,hSt⟩:=ex_eq W.heap.size
 have HSt:=hid hSt
 rw [hSt] at HB3 HYS HYB ⊢
 clear hSt c0 c1 c2 c3 b0 r0 rf
 have HLT:Hid (p<Rb∧R=Rb+1∧St=Rb+2∧Rb=w.heap.size):=hid (by have h1:=HR.o.lt;have h2:=HRR.o;have h3:=HWS.o;have h4:=HSt.o;omega)
 have HYW:Hid (Below w.heap.size w Y):=hid (HB.o.trans (HYB.o.mono (by have:=HLT.o;omega)))
 have HB1:Hid (Y.heap[Rb]? =some (.cells #[.pointer (some ⟨p,0,none⟩)] 171 (0,0))):=hid ((HYB.o.block Rb (by have:=HLT.o;omega)).trans HB1.o)
 have HB2:Hid (Y.heap[R]? =some (.cells #[.int .u64 0] 167 (0,0))):=hid ((HYB.o.block R (by have:=HLT.o;omega)).trans HB2.o)
 have HRY:Hid (RdRow Y p ad n c o last 0):=hid (HR.o.later HYW.o HR.o.lt)
 have b0:=(one_cells HB1.o).1
 refine Kit.wp_region_gplan (fun V=>V.cell? ⟨Rb,0,none⟩=some (.pointer (some ⟨p,0,none⟩))) [(true,0),(true,1),(false,2),(true,3),(true,4),(true,5),(false,6),(true,7),(true,8),(false,9)] (by kernel_rfl) (by kernel_rfl) (by kernel_rfl) (by kernel_rfl) b0 ?_
 iterate 2 (refine Kit.ghd (h:= ?_))
 have HV0:Hid (Below Y.heap.size Y Y.drew):=hid (Below.refl _ _).drew
 obtain ⟨V,hV⟩:=ex_eq Y.drew
 rw [hV] at HV0 ⊢
 have HVS:Hid (V.heap.size=St+1):=hid (by rw [← hV];exact HYS.o)
 clear hV b0
 have HVW:Hid (Below w.heap.size w V):=hid (HYW.o.trans (HV0.o.mono (by have:=HYW.o.size;omega)))
 have HRV:Hid (RdRow V p ad n c o last 0):=hid (HRY.o.later HV0.o HRY.o.lt)
 refine Kit.gplan_op (by rfl) (by rfl) fun K hK=> ?_
 go_simp
 go_at_call 260
 with_reducible refine (HD.o V HVW.o HRV.o).mono ?_
 rintro e V' ⟨z,er,off',rfl,hrow,hchg,hout⟩
 have HRV':=hid hrow
 have HC:=hid hchg
 have HO:=hid hout
 have HSZ:Hid (St+1≤V'.heap.size):=hid (by have:=hchg.size;have:=HVS.o;omega)
 have HB1:Hid (V'.heap[Rb]? =some (.cells #[.pointer (some ⟨p,0,none⟩)] 171 (0,0))):=hid ((hchg.other Rb (by have:=HVS.o;have:=HLT.o;omega) (fun i hm=>by have h1:Rb=p:=hm;have:=HLT.o;omega)).trans ((HV0.o.block Rb (by have:=HYS.o;have:=HLT.o;omega)).trans HB1.o))
 have HB2:Hid (V'.heap[R]? =some (.cells #[.int .u64 0] 167 (0,0))):=hid ((hchg.other R (by have:=HVS.o;have:=HLT.o;omega) (fun i hm=>by have h1:R=p:=hm;have:=HLT.o;omega)).trans ((HV0.o.block R (by have:=HYS.o;have:=HLT.o;omega)).trans HB2.o))
 have HB3:Hid (V'.heap[St]? =some (.cells #[.int .i64 o] 3 (0,0))):=hid ((hchg.other St (by have:=HVS.o;omega) (fun i hm=>by have h1:St=p:=hm;have:=HLT.o;omega)).trans ((HV0.o.block St (by have:=HYS.o;omega)).trans HB3.o))
 clear hrow hchg hout
 obtain ⟨r0,rf⟩:=one_cells HB2.o
 have b0:=(one_cells HB1.o).1
 refine hK _ _ b0 ?_
 clear hK K
 iterate 3 (refine Kit.ghd (h:= ?_))
 refine Kit.gplan_op (by rfl) (by rfl) fun K hK=> ?_
 go_simp
 obtain ⟨Y1,hY1⟩:=ex_eq (V'.setCell ⟨R,0,none⟩ (.int .u64 z))
 rw [hY1]
 have HN:Hid (p≠R∧Rb≠R∧St≠R∧p≠Rb∧p≠St):=hid (by have:=HLT.o;omega)
 have HR1:Hid (RdRow Y1 p ad n c off' last 0):=hid (by rw [← hY1];exact HRV'.o.ne HN.o.1 _)
 have HA1:Hid (Y1.heap[Rb]? =some (.cells #[.pointer (some ⟨p,0,none⟩)] 171 (0,0))):=hid (by rw [← hY1];exact (heap_put_ne HN.o.2.1).trans HB1.o)
 have HA2:Hid (Y1.heap[R]? =some (.cells #[.int .u64 z] 167 (0,0))):=hid (by rw [← hY1];exact one_put HB2.o _)
 have HA3:Hid (Y1.heap[St]? =some (.cells #[.int .i64 o] 3 (0,0))):=hid (by rw [← hY1];exact (heap_put_ne HN.o.2.2.1).trans HB3.o)
 have HC1:Hid (Chg (fun q _=>q=p∨q=R) V' Y1):=hid (by rw [← hY1];exact (Chg.refl _ _).setCell _ (.inr rfl))
 clear hY1 r0 rf b0
 have b0:=(one_cells HA1.o).1
 refine hK _ _ b0 ?_
 clear hK K
 obtain ⟨c0,c1,c2,c3,cf⟩:=HR1.o.cells
 have f3:=cf 3
 iterate 2 (refine Kit.ghd (h:= ?_))
 refine Kit.gplan_op (by rfl) (by rfl) fun K hK=> ?_
 go_simp
 obtain ⟨Y2,hY2⟩:=ex_eq (Y1.setCell ⟨p,3,none⟩ (.int .i64 er))
 rw [hY2]
 have HR2:Hid (RdRow Y2 p ad n c off' last er):=hid (by rw [← hY2];exact HR1.o.put3 _)
 have HN2:Hid (R≠p∧Rb≠p∧St≠p):=hid (by have:=HLT.o;omega)
 have HA1:Hid (Y2.heap[Rb]? =some (.cells #[.pointer (some ⟨p,0,none⟩)] 171 (0,0))):=hid (by rw [← hY2];exact (heap_put_ne HN2.o.2.1).trans HA1.o)
 have HA2:Hid (Y2.heap[R]? =some (.cells #[.int .u64 z] 167 (0,0))):=hid (by rw [← hY2];exact (heap_put_ne HN2.o.1).trans HA2.o)
 have HA3:Hid (Y2.heap[St]? =some (.cells #[.int .i64 o] 3 (0,0))):=hid (by rw [← hY2];exact (heap_put_ne HN2.o.2.2).trans HA3.o)
 have HC2:Hid (Chg (fun q _=>q=p∨q=R) V' Y2):=hid (by rw [← hY2];exact HC1.o.setCell _ (.inl rfl))
 clear hY2 c0 c1 c2 c3 cf f3 b0
 have b0:=(one_cells HA1.o).1
 refine hK _ _ b0 ?_
 clear hK K
 refine Kit.gdn (h:=?_)
 obtain ⟨r0,rf⟩:=one_cells HA2.o
 go_wp2_with fail
 have HA4:Hid ((Y2.setCell ⟨R,0,none⟩ (.int .u64 z)).heap[R]? =some (.cells #[.int .u64 z] 167 (0,0))):=hid (one_put HA2.o _)
 have HA5:Hid ((Y2.setCell ⟨R,0,none⟩ (.int .u64 z)).heap[Rb]? =some (.cells #[.pointer (some ⟨p,0,none⟩)] 171 (0,0))):=hid ((heap_put_ne HN.o.2.1).trans HA1.o)
 have HA6:Hid ((Y2.setCell ⟨R,0,none⟩ (.int .u64 z)).heap[St]? =some (.cells #[.int .i64 o] 3 (0,0))):=hid ((heap_put_ne HN.o.2.2.1).trans HA3.o)
 have HR4:Hid (RdRow (Y2.setCell ⟨R,0,none⟩ (.int .u64 z)) p ad n c off' last er):=hid (HR2.o.ne HN.o.1 _)
 have HC4:Hid (Chg (fun q _=>q=p∨q=R) V' (Y2.setCell ⟨R,0,none⟩ (.int .u64 z))):=hid (HC2.o.setCell _ (.inr rfl))
 have HFIN:Hid (∀Z,Chg (fun q _=>q=p∨q=R) (Y2.setCell ⟨R,0,none⟩ (.int .u64 z)) Z→Chg (fun q _=>q<V.heap.size) V' Z∧Chg (RdM p) w Z):=hid (fun Z hZ=>by
  have hall:Chg (fun q _=>q=p∨q=R) V' Z:=HC4.o.trans hZ
  refine ⟨hall.mono (fun q i hq hm=>by
   have:=HVS.o;have:=HLT.o
   rcases hm with h | h<;> omega),?_⟩
  have h2:Chg (fun q _=>q=p∨w.heap.size≤q) w V:=Chg.of_below' HVW.o (fun k i hk _=> .inr hk)
  have h3:Chg (fun q _=>q=p∨w.heap.size≤q) V V':=HC.o.mono (fun q i hq hm=> .inl hm)
  have h4:Chg (fun q _=>q=p∨w.heap.size≤q) V' Z:=hall.mono (fun q i hq hm=>by
   rcases hm with h | h
   ·exact .inl h
   ·right;have:=HLT.o;omega)
  exact ((h2.trans h3).trans h4).mono (fun q i hq hm=>by
   rcases hm with h | h
   ·exact h
   ·omega))
 clear r0 rf b0
 by_cases her:er=0
 ·subst her
  refine leaves_cons (f:= 301) (args:= #[.pointer (some ⟨St,0,none⟩),.pointer (some ⟨Rb,0,none⟩),.pointer (some ⟨R,0,none⟩)]) (by simp) (by simp [go_sem]) ?_
  refine (rvU_keep p St Rb R ad n c off' last o z .returning _ HR4.o HA6.o HA5.o HA4.o ⟨HN.o.2.2.2.2,HN.o.2.2.2.1,HN.o.1,HN.o.2.2.1,HN.o.2.1⟩).mono ?_
  rintro e u' Z ⟨rfl,rfl,h1,h2,h3⟩
  have hc:=(one_cells h2).1
  refine ⟨.int .u64 z,by simp [results,Tryz.results259,go_sem,hc],?_⟩
  exact ⟨z,0,off',V,V',HVW.o,HO.o,HC.o,(HFIN.o Z h3).1,(HFIN.o Z h3).2,.inl ⟨rfl,rfl,h1⟩⟩
 ·refine leaves_cons (f:= 301) (args:= #[.pointer (some ⟨St,0,none⟩),.pointer (some ⟨Rb,0,none⟩),.pointer (some ⟨R,0,none⟩)]) (by simp) (by simp [go_sem]) ?_
  refine (rvU_drop p St Rb R ad n c off' last o er z her .returning _ HR4.o HA6.o HA5.o HA4.o ⟨HN.o.2.2.2.2,HN.o.2.2.2.1,HN.o.1,HN.o.2.2.1,HN.o.2.1⟩).mono ?_
  rintro e u' Z ⟨rfl,rfl,h1,h2,h3⟩
  have hc:=(one_cells h2).1
  refine ⟨.int .u64 0,by simp [results,Tryz.results259,go_sem,hc],?_⟩
  exact ⟨z,er,off',V,V',HVW.o,HO.o,HC.o,(HFIN.o Z h3).1,(HFIN.o Z h3).2,.inr ⟨her,rfl,h1⟩⟩
theorem rvT_keep (p St Rb R:Nat) (ad:Option Addr) (n c:Nat) (off last start:Int) (z:ByteArray) (u:FrameMode) (w:World) (hr:RdRow w p ad n c off last 0) (h1:w.heap[St]? =some (.cells #[.int .i64 start] 3 (0,0))) (h2:w.heap[Rb]? =some (.cells #[.pointer (some ⟨p,0,none⟩)] 171 (0,0))) (h3:w.heap[R]? =some (.cells #[.string z] 9 (0,0))) (hne:p≠St∧p≠Rb∧p≠R∧St≠R∧Rb≠R):
    CallsD Tryz.prog 261 #[.pointer (some ⟨St,0,none⟩),.pointer (some ⟨Rb,0,none⟩),.pointer (some ⟨R,0,none⟩)] u w fun e u' w'=>u'=u∧(e= .returned (.tuple #[])∧RdRow w' p ad n c off start 0∧w'.heap[R]? =some (.cells #[.string z] 9 (0,0))∧Chg (fun q _=>q=p∨q=R) w w'):=by
 obtain ⟨c0,c1,c2,c3,cf⟩:=hr.cells
 obtain ⟨d1,_⟩:=one_cells h1
 obtain ⟨d2,_⟩:=one_cells h2
 obtain ⟨d3,f3⟩:=one_cells h3
 have f1:=cf 1
 have f2:=cf 2
 have HR:=hid hr
 have H1:=hid h1
 have H2:=hid h2
 have H3:=hid h3
 have HNE:=hid hne
 have n1:St≠p:=fun h=>hne.1 h.symm
 have n2:Rb≠p:=fun h=>hne.2.1 h.symm
 have n3:R≠p:=fun h=>hne.2.2.1 h.symm
 clear hr h1 h2 h3 hne cf
 go_enter_d Tryz.func261,Tryz.ntmps261
 go_wp2_with fail
 go_end0
 exact ⟨rfl,HR.o.put2 _,(heap_put_ne n3).trans H3.o,(Chg.refl _ _).setCell _ (.inl rfl)⟩
theorem rvT_drop (p St Rb R:Nat) (ad:Option Addr) (n c:Nat) (off last start er:Int) (z:ByteArray) (her:er≠0) (u:FrameMode) (w:World) (hr:RdRow w p ad n c off last er) (h1:w.heap[St]? =some (.cells #[.int .i64 start] 3 (0,0))) (h2:w.heap[Rb]? =some (.cells #[.pointer (some ⟨p,0,none⟩)] 171 (0,0))) (h3:w.heap[R]? =some (.cells #[.string z] 9 (0,0))) (hne:p≠St∧p≠Rb∧p≠R∧St≠R∧Rb≠R):
    CallsD Tryz.prog 261 #[.pointer (some ⟨St,0,none⟩),.pointer (some ⟨Rb,0,none⟩),.pointer (some ⟨R,0,none⟩)] u w fun e u' w'=>u'=u∧(e= .returned (.tuple #[])∧RdRow w' p ad n c start start er∧w'.heap[R]? =some (.cells #[.string ByteArray.empty] 9 (0,0))∧Chg (fun q _=>q=p∨q=R) w w'):=by
 obtain ⟨c0,c1,c2,c3,cf⟩:=hr.cells
 obtain ⟨d1,_⟩:=one_cells h1
 obtain ⟨d2,_⟩:=one_cells h2
 obtain ⟨d3,f3⟩:=one_cells h3
 have f1:=cf 1
 have f2:=cf 2
 have HR:=hid hr
 have H1:=hid h1
 have H2:=hid h2
 have H3:=hid h3
 have HNE:=hid hne
 have n1:St≠p:=fun h=>hne.1 h.symm
 have n2:Rb≠p:=fun h=>hne.2.1 h.symm
 have n3:R≠p:=fun h=>hne.2.2.1 h.symm
 have hb:(er != 0)=true:=by rw [bne_iff_ne];exact her
 clear hr h1 h2 h3 hne cf
 go_enter_d Tryz.func261,Tryz.ntmps261
 go_wp2_with fail
 go_end0
 exact ⟨rfl,((HR.o.put2 _).put1 _).ne HNE.o.2.2.1 _,one_put (((heap_put_ne n3).trans (heap_put_ne n3)).trans H3.o) _,(((Chg.refl _ _).setCell _ (.inl rfl)).setCell _ (.inl rfl)).setCell _ (.inr rfl)⟩
theorem rvT_bad (p:Nat) (ad:Option Addr) (n c:Nat) (off last er:Int) (her:er≠0) (dv:Value) (w:World) (hr:RdRow w p ad n c off last er):
    Calls Tryz.prog 204 #[.pointer (some ⟨p,0,none⟩),dv] w fun e w'=>e= .returned (.string ByteArray.empty)∧Below w.heap.size w w':=by
 have HR:=hid hr
 have hb:(er != 0)=true:=by rw [bne_iff_ne];exact her
 have hmf: ∀(fn:Fn) (first cap:Array Value) (w:World),(Instr.makeFunc fn first cap).run Tryz.prog w= .ok (.func fn first cap) w:=fun _ _ _ _=>rfl
 clear hr her
 go_enter_defers Tryz.func204,Tryz.ntmps204
 go_upto_region 1 with fail
 refine wp_over (fun V=>Hid (V.heap[w.heap.size]? =some (.cells #[.pointer (some ⟨p,0,none⟩)] 171 (0,0)))∧Hid (V.heap[w.heap.size+1]? =some (.cells #[.string ByteArray.empty] 9 (0,0)))∧Hid (Below w.heap.size w V)∧Hid (V.heap.size=w.heap.size+2)) ⟨two_rows1,two_rows2,two_below,two_size⟩ ?_
 rintro W ⟨HB1,HB2,HB,HWS⟩
 have HRW:Hid (RdRow W p ad n c off last er):=hid (HR.o.later HB.o HR.o.lt)
 obtain ⟨c0,c1,c2,c3,cf⟩:=HRW.o.cells
 obtain ⟨b0,_⟩:=one_cells HB1.o
 obtain ⟨r0,rf⟩:=one_cells HB2.o
 obtain ⟨Rb,hRb⟩:=ex_eq w.heap.size
 obtain ⟨R,hR⟩:=ex_eq (w.heap.size+1)
 have HRR:=hid hR
 rw [hR] at HB2 r0 rf ⊢
 rw [hRb] at HB1 b0 ⊢
 clear cf hRb hR
 go_wp2_with fail
 have HF:Hid ((W.setCell ⟨R,0,none⟩ (.string ByteArray.empty)).heap[R]? =some (.cells #[.string ByteArray.empty] 9 (0,0))):=hid (one_put HB2.o _)
 have HBL:Hid (Below w.heap.size w (W.setCell ⟨R,0,none⟩ (.string ByteArray.empty))):=hid (HB.o.setCell (by show w.heap.size≤R;have:=HRR.o;omega) _)
 have hc:=(one_cells HF.o).1
 simp only [bodyPostD,Leaves]
 refine ⟨.string ByteArray.empty,by simp [results,Tryz.results204,go_sem,hc],rfl,HBL.o⟩
def RvT (OUT:ByteArray→Int→Int→World→World→Prop) (p:Nat) (ad:Option Addr) (n c:Nat) (o:Int) (w:World) (e:Ending) (w':World):Prop:= ∃(z:ByteArray) (er off':Int) (V V':World),Below w.heap.size w V∧OUT z er off' V V'∧Chg (RdM p) V V'∧Chg (fun q _=>q<V.heap.size) V' w'∧Chg (RdM p) w w'∧((er=0∧e= .returned (.string z)∧RdRow w' p ad n c off' o 0)∨(er≠0∧e= .returned (.string ByteArray.empty)∧RdRow w' p ad n c o o er))
end Go.Proofs.YtndlihclgdkpaaaGreatDoor
