/- wire.Reader: Sum and Count; receipt: readUint, readSums. -/
import Derived.Test.YtndlihclgdkpaaaGreatDoorGc
import Derived.Test.YtndlihclgdkpaaaGreatDoorGi
import Derived.Test.YtndlihclgdkpaaaGreatDoorRde
set_option linter.unusedVariables false
set_option linter.unusedSimpArgs false
open Go.Lib (hid)
set_option maxHeartbeats 2000000
set_option maxRecDepth 100000
namespace Go.Proofs.YtndlihclgdkpaaaGreatDoor
open Go.RowKit
open Kit (Chg)
open Sha (v)
open Go.Proofs.YtndlihclgdkpaaaGreatDoor.One

theorem rvC_keep (p St Rb R:Nat) (ad:Option Addr) (n c:Nat) (off last start:Int) (z:Int) (u:FrameMode) (w:World) (hr:RdRow w p ad n c off last 0) (h1:w.heap[St]? =some (.cells #[.int .i64 start] 3 (0,0))) (h2:w.heap[Rb]? =some (.cells #[.pointer (some ⟨p,0,none⟩)] 171 (0,0))) (h3:w.heap[R]? =some (.cells #[.int .i64 z] 3 (0,0))) (hne:p≠St∧p≠Rb∧p≠R∧St≠R∧Rb≠R):
    CallsD Tryz.prog 302 #[.pointer (some ⟨St,0,none⟩),.pointer (some ⟨Rb,0,none⟩),.pointer (some ⟨R,0,none⟩)] u w fun e u' w'=>u'=u∧(e= .returned (.tuple #[])∧RdRow w' p ad n c off start 0∧w'.heap[R]? =some (.cells #[.int .i64 z] 3 (0,0))∧Chg (fun q _=>q=p∨q=R) w w'):=by
 obtain ⟨c0,c1,c2,c3,cf⟩:=hr.cells
 obtain ⟨d1,_⟩:=one_cells h1
 obtain ⟨d2,_⟩:=one_cells h2
 obtain ⟨d3,f3⟩:=one_cells h3
 have f1:=cf 1
 have f2:=cf 2
 have HR:=hid hr
 have H1:=hid h1
 have H2:=hid h2
 have H3:=hid h3
 have HNE:=hid hne
 have n1:St≠p:=fun h=>hne.1 h.symm
 have n2:Rb≠p:=fun h=>hne.2.1 h.symm
 have n3:R≠p:=fun h=>hne.2.2.1 h.symm
 clear hr h1 h2 h3 hne cf
 go_enter_d Tryz.func302,Tryz.ntmps302
 go_wp2_with fail
 go_end0
 exact ⟨rfl,HR.o.put2 _,(heap_put_ne n3).trans H3.o,(Chg.refl _ _).setCell _ (.inl rfl)⟩
theorem rvC_drop (p St Rb R:Nat) (ad:Option Addr) (n c:Nat) (off last start er:Int) (z:Int) (her:er≠0) (u:FrameMode) (w:World) (hr:RdRow w p ad n c off last er) (h1:w.heap[St]? =some (.cells #[.int .i64 start] 3 (0,0))) (h2:w.heap[Rb]? =some (.cells #[.pointer (some ⟨p,0,none⟩)] 171 (0,0))) (h3:w.heap[R]? =some (.cells #[.int .i64 z] 3 (0,0))) (hne:p≠St∧p≠Rb∧p≠R∧St≠R∧Rb≠R):
    CallsD Tryz.prog 302 #[.pointer (some ⟨St,0,none⟩),.pointer (some ⟨Rb,0,none⟩),.pointer (some ⟨R,0,none⟩)] u w fun e u' w'=>u'=u∧(e= .returned (.tuple #[])∧RdRow w' p ad n c start start er∧w'.heap[R]? =some (.cells #[.int .i64 0] 3 (0,0))∧Chg (fun q _=>q=p∨q=R) w w'):=by
 obtain ⟨c0,c1,c2,c3,cf⟩:=hr.cells
 obtain ⟨d1,_⟩:=one_cells h1
 obtain ⟨d2,_⟩:=one_cells h2
 obtain ⟨d3,f3⟩:=one_cells h3
 have f1:=cf 1
 have f2:=cf 2
 have HR:=hid hr
 have H1:=hid h1
 have H2:=hid h2
 have H3:=hid h3
 have HNE:=hid hne
 have n1:St≠p:=fun h=>hne.1 h.symm
 have n2:Rb≠p:=fun h=>hne.2.1 h.symm
 have n3:R≠p:=fun h=>hne.2.2.1 h.symm
 have hb:(er != 0)=true:=by rw [bne_iff_ne];exact her
 clear hr h1 h2 h3 hne cf
 go_enter_d Tryz.func302,Tryz.ntmps302
 go_wp2_with fail
 go_end0
 exact ⟨rfl,((HR.o.put2 _).put1 _).ne HNE.o.2.2.1 _,one_put (((heap_put_ne n3).trans (heap_put_ne n3)).trans H3.o) _,(((Chg.refl _ _).setCell _ (.inl rfl)).setCell _ (.inl rfl)).setCell _ (.inr rfl)⟩
theorem rvC_bad (p:Nat) (ad:Option Addr) (n c:Nat) (off last er:Int) (her:er≠0) (dv:Value) (w:World) (hr:RdRow w p ad n c off last er):
    Calls Tryz.prog 262 #[.pointer (some ⟨p,0,none⟩),dv] w fun e w'=>e= .returned (.int .i64 0)∧Below w.heap.size w w':=by
 have HR:=hid hr
 have hb:(er != 0)=true:=by rw [bne_iff_ne];exact her
 have hmf: ∀(fn:Fn) (first cap:Array Value) (w:World),(Instr.makeFunc fn first cap).run Tryz.prog w= .ok (.func fn first cap) w:=fun _ _ _ _=>rfl
 clear hr her
 go_enter_defers Tryz.func262,Tryz.ntmps262
 go_upto_region 1 with fail
 refine wp_over (fun V=>Hid (V.heap[w.heap.size]? =some (.cells #[.pointer (some ⟨p,0,none⟩)] 171 (0,0)))∧Hid (V.heap[w.heap.size+1]? =some (.cells #[.int .i64 0] 3 (0,0)))∧Hid (Below w.heap.size w V)∧Hid (V.heap.size=w.heap.size+2)) ⟨two_rows1,two_rows2,two_below,two_size⟩ ?_
 rintro W ⟨HB1,HB2,HB,HWS⟩
 have HRW:Hid (RdRow W p ad n c off last er):=hid (HR.o.later HB.o HR.o.lt)
 obtain ⟨c0,c1,c2,c3,cf⟩:=HRW.o.cells
 obtain ⟨b0,_⟩:=one_cells HB1.o
 obtain ⟨r0,rf⟩:=one_cells HB2.o
 obtain ⟨Rb,hRb⟩:=ex_eq w.heap.size
 obtain ⟨R,hR⟩:=ex_eq (w.heap.size+1)
 have HRR:=hid hR
 rw [hR] at HB2 r0 rf ⊢
 rw [hRb] at HB1 b0 ⊢
 clear cf hRb hR
 go_wp2_with fail
 have HF:Hid ((W.setCell ⟨R,0,none⟩ (.int .i64 0)).heap[R]? =some (.cells #[.int .i64 0] 3 (0,0))):=hid (one_put HB2.o _)
 have HBL:Hid (Below w.heap.size w (W.setCell ⟨R,0,none⟩ (.int .i64 0))):=hid (HB.o.setCell (by show w.heap.size≤R;have:=HRR.o;omega) _)
 have hc:=(one_cells HF.o).1
 simp only [bodyPostD,Leaves]
 refine ⟨.int .i64 0,by simp [results,Tryz.results262,go_sem,hc],rfl,HBL.o⟩
def RvC (OUT:Int→Int→Int→World→World→Prop) (p:Nat) (ad:Option Addr) (n c:Nat) (o:Int) (w:World) (e:Ending) (w':World):Prop:= ∃(z:Int) (er off':Int) (V V':World),Below w.heap.size w V∧OUT z er off' V V'∧Chg (RdM p) V V'∧Chg (fun q _=>q<V.heap.size) V' w'∧Chg (RdM p) w w'∧((er=0∧e= .returned (.int .i64 z)∧RdRow w' p ad n c off' o 0)∨(er≠0∧e= .returned (.int .i64 0)∧RdRow w' p ad n c o o er))
theorem rvC_run (OUT:Int→Int→Int→World→World→Prop) (B1 B2:Nat) (p:Nat) (ad:Option Addr) (n c:Nat) (o last:Int) (w:World) (hr:RdRow w p ad n c o last 0)
    (hD: ∀V,Below w.heap.size w V→RdRow V p ad n c o last 0→Calls Tryz.prog 263 #[.pointer (some ⟨B1,0,none⟩),.pointer (some ⟨B2,0,none⟩)] V fun e V'=> ∃(z:Int) (er off':Int),e= .returned (.tuple #[.int .i64 z,.int .i64 er])∧RdRow V' p ad n c off' last 0∧Chg (RdM p) V V'∧OUT z er off' V V'):
    Calls Tryz.prog 262 #[.pointer (some ⟨p,0,none⟩),.func (.func 263) #[] #[.pointer (some ⟨B1,0,none⟩),.pointer (some ⟨B2,0,none⟩)]] w fun e w'=>RvC OUT p ad n c o w e w':=by
 have HR:=hid hr
 have HD:=hid hD
 have hmf: ∀(fn:Fn) (first cap:Array Value) (w:World),(Instr.makeFunc fn first cap).run Tryz.prog w= .ok (.func fn first cap) w:=fun _ _ _ _=>rfl
 clear hr hD
 go_enter_defers Tryz.func262,Tryz.ntmps262
 go_upto_region 1 with fail
 refine wp_over (fun V=>Hid (V.heap[w.heap.size]? =some (.cells #[.pointer (some ⟨p,0,none⟩)] 171 (0,0)))∧Hid (V.heap[w.heap.size+1]? =some (.cells #[.int .i64 0] 3 (0,0)))∧Hid (Below w.heap.size w V)∧Hid (V.heap.size=w.heap.size+2)) ⟨two_rows1,two_rows2,two_below,two_size⟩ ?_
 rintro W ⟨HB1,HB2,HB,HWS⟩
 have HRW:Hid (RdRow W p ad n c o last 0):=hid (HR.o.later HB.o HR.o.lt)
 obtain ⟨c0,c1,c2,c3,cf⟩:=HRW.o.cells
 obtain ⟨b0,_⟩:=one_cells HB1.o
 obtain ⟨r0,rf⟩:=one_cells HB2.o
 obtain ⟨Rb,hRb⟩:=ex_eq w.heap.size
 obtain ⟨R,hR⟩:=ex_eq (w.heap.size+1)
 have HRR:=hid (And.intro hRb hR)
 rw [hR] at HB2 r0 rf ⊢
 rw [hRb] at HB1 b0 ⊢
 clear cf hRb hR
 go_upto_region 5 with fail
 refine wp_over (fun V=>Hid (V.heap[W.heap.size]? =some (.cells #[.int .i64 o] 3 (0,0)))∧Hid (V.heap.size=W.heap.size+1)∧Hid (Below W.heap.size W V)) ⟨heap_alloc_new _ _,by show _=_;simp,(Below.refl _ _).alloc (Nat.le_refl _) _⟩ ?_
 rintro Y ⟨HB3,HYS,HYB⟩
 obtain ⟨St,hSt⟩:=ex_eq W.heap.size
 have HSt:=hid hSt
 rw [hSt] at HB3 HYS HYB ⊢
 clear hSt c0 c1 c2 c3 b0 r0 rf
 have HLT:Hid (p<Rb∧R=Rb+1∧St=Rb+2∧Rb=w.heap.size):=hid (by have h1:=HR.o.lt;have h2:=HRR.o;have h3:=HWS.o;have h4:=HSt.o;omega)
 have HYW:Hid (Below w.heap.size w Y):=hid (HB.o.trans (HYB.o.mono (by have:=HLT.o;omega)))
 have HB1:Hid (Y.heap[Rb]? =some (.cells #[.pointer (some ⟨p,0,none⟩)] 171 (0,0))):=hid ((HYB.o.block Rb (by have:=HLT.o;omega)).trans HB1.o)
 have HB2:Hid (Y.heap[R]? =some (.cells #[.int .i64 0] 3 (0,0))):=hid ((HYB.o.block R (by have:=HLT.o;omega)).trans HB2.o)
 have HRY:Hid (RdRow Y p ad n c o last 0):=hid (HR.o.later HYW.o HR.o.lt)
 have b0:=(one_cells HB1.o).1
 refine Kit.wp_region_gplan (fun V=>V.cell? ⟨Rb,0,none⟩=some (.pointer (some ⟨p,0,none⟩))) [(true,0),(true,1),(false,2),(true,3),(true,4),(true,5),(false,6),(true,7),(true,8),(false,9)] (by kernel_rfl) (by kernel_rfl) (by kernel_rfl) (by kernel_rfl) b0 ?_
 iterate 2 (refine Kit.ghd (h:= ?_))
 have HV0:Hid (Below Y.heap.size Y Y.drew):=hid (Below.refl _ _).drew
 obtain ⟨V,hV⟩:=ex_eq Y.drew
 rw [hV] at HV0 ⊢
 have HVS:Hid (V.heap.size=St+1):=hid (by rw [← hV];exact HYS.o)
 clear hV b0
 have HVW:Hid (Below w.heap.size w V):=hid (HYW.o.trans (HV0.o.mono (by have:=HYW.o.size;omega)))
 have HRV:Hid (RdRow V p ad n c o last 0):=hid (HRY.o.later HV0.o HRY.o.lt)
 refine Kit.gplan_op (by rfl) (by rfl) fun K hK=> ?_
 go_simp
 go_at_call 263
 with_reducible refine (HD.o V HVW.o HRV.o).mono ?_
 rintro e V' ⟨z,er,off',rfl,hrow,hchg,hout⟩
 have HRV':=hid hrow
 have HC:=hid hchg
 have HO:=hid hout
 have HSZ:Hid (St+1≤V'.heap.size):=hid (by have:=hchg.size;have:=HVS.o;omega)
 have HB1:Hid (V'.heap[Rb]? =some (.cells #[.pointer (some ⟨p,0,none⟩)] 171 (0,0))):=hid ((hchg.other Rb (by have:=HVS.o;have:=HLT.o;omega) (fun i hm=>by have h1:Rb=p:=hm;have:=HLT.o;omega)).trans ((HV0.o.block Rb (by have:=HYS.o;have:=HLT.o;omega)).trans HB1.o))
 have HB2:Hid (V'.heap[R]? =some (.cells #[.int .i64 0] 3 (0,0))):=hid ((hchg.other R (by have:=HVS.o;have:=HLT.o;omega) (fun i hm=>by have h1:R=p:=hm;have:=HLT.o;omega)).trans ((HV0.o.block R (by have:=HYS.o;have:=HLT.o;omega)).trans HB2.o))
 have HB3:Hid (V'.heap[St]? =some (.cells #[.int .i64 o] 3 (0,0))):=hid ((hchg.other St (by have:=HVS.o;omega) (fun i hm=>by have h1:St=p:=hm;have:=HLT.o;omega)).trans ((HV0.o.block St (by have:=HYS.o;omega)).trans HB3.o))
 clear hrow hchg hout
 obtain ⟨r0,rf⟩:=one_cells HB2.o
 have b0:=(one_cells HB1.o).1
 refine hK _ _ b0 ?_
 clear hK K
 iterate 3 (refine Kit.ghd (h:= ?_))
 refine Kit.gplan_op (by rfl) (by rfl) fun K hK=> ?_
 go_simp
 obtain ⟨Y1,hY1⟩:=ex_eq (V'.setCell ⟨R,0,none⟩ (.int .i64 z))
 rw [hY1]
 have HN:Hid (p≠R∧Rb≠R∧St≠R∧p≠Rb∧p≠St):=hid (by have:=HLT.o;omega)
 have HR1:Hid (RdRow Y1 p ad n c off' last 0):=hid (by rw [← hY1];exact HRV'.o.ne HN.o.1 _)
 have HA1:Hid (Y1.heap[Rb]? =some (.cells #[.pointer (some ⟨p,0,none⟩)] 171 (0,0))):=hid (by rw [← hY1];exact (heap_put_ne HN.o.2.1).trans HB1.o)
 have HA2:Hid (Y1.heap[R]? =some (.cells #[.int .i64 z] 3 (0,0))):=hid (by rw [← hY1];exact one_put HB2.o _)
 have HA3:Hid (Y1.heap[St]? =some (.cells #[.int .i64 o] 3 (0,0))):=hid (by rw [← hY1];exact (heap_put_ne HN.o.2.2.1).trans HB3.o)
 have HC1:Hid (Chg (fun q _=>q=p∨q=R) V' Y1):=hid (by rw [← hY1];exact (Chg.refl _ _).setCell _ (.inr rfl))
 clear hY1 r0 rf b0
 have b0:=(one_cells HA1.o).1
 refine hK _ _ b0 ?_
 clear hK K
 obtain ⟨c0,c1,c2,c3,cf⟩:=HR1.o.cells
 have f3:=cf 3
 iterate 2 (refine Kit.ghd (h:= ?_))
 refine Kit.gplan_op (by rfl) (by rfl) fun K hK=> ?_
 go_simp
 obtain ⟨Y2,hY2⟩:=ex_eq (Y1.setCell ⟨p,3,none⟩ (.int .i64 er))
 rw [hY2]
 have HR2:Hid (RdRow Y2 p ad n c off' last er):=hid (by rw [← hY2];exact HR1.o.put3 _)
 have HN2:Hid (R≠p∧Rb≠p∧St≠p):=hid (by have:=HLT.o;omega)
 have HA1:Hid (Y2.heap[Rb]? =some (.cells #[.pointer (some ⟨p,0,none⟩)] 171 (0,0))):=hid (by rw [← hY2];exact (heap_put_ne HN2.o.2.1).trans HA1.o)
 have HA2:Hid (Y2.heap[R]? =some (.cells #[.int .i64 z] 3 (0,0))):=hid (by rw [← hY2];exact (heap_put_ne HN2.o.1).trans HA2.o)
 have HA3:Hid (Y2.heap[St]? =some (.cells #[.int .i64 o] 3 (0,0))):=hid (by rw [← hY2];exact (heap_put_ne HN2.o.2.2).trans HA3.o)
 have HC2:Hid (Chg (fun q _=>q=p∨q=R) V' Y2):=hid (by rw [← hY2];exact HC1.o.setCell _ (.inl rfl))
 clear hY2 c0 c1 c2 c3 cf f3 b0
 have b0:=(one_cells HA1.o).1
 refine hK _ _ b0 ?_
 clear hK K
 refine Kit.gdn (h:=?_)
 obtain ⟨r0,rf⟩:=one_cells HA2.o
 go_wp2_with fail
 have HA4:Hid ((Y2.setCell ⟨R,0,none⟩ (.int .i64 z)).heap[R]? =some (.cells #[.int .i64 z] 3 (0,0))):=hid (one_put HA2.o _)
 have HA5:Hid ((Y2.setCell ⟨R,0,none⟩ (.int .i64 z)).heap[Rb]? =some (.cells #[.pointer (some ⟨p,0,none⟩)] 171 (0,0))):=hid ((heap_put_ne HN.o.2.1).trans HA1.o)
 have HA6:Hid ((Y2.setCell ⟨R,0,none⟩ (.int .i64 z)).heap[St]? =some (.cells #[.int .i64 o] 3 (0,0))):=hid ((heap_put_ne HN.o.2.2.1).trans HA3.o)
 have HR4:Hid (RdRow (Y2.setCell ⟨R,0,none⟩ (.int .i64 z)) p ad n c off' last er):=hid (HR2.o.ne HN.o.1 _)
 have HC4:Hid (Chg (fun q _=>q=p∨q=R) V' (Y2.setCell ⟨R,0,none⟩ (.int .i64 z))):=hid (HC2.o.setCell _ (.inr rfl))
 have HFIN:Hid (∀Z,Chg (fun q _=>q=p∨q=R) (Y2.setCell ⟨R,0,none⟩ (.int .i64 z)) Z→Chg (fun q _=>q<V.heap.size) V' Z∧Chg (RdM p) w Z):=hid (fun Z hZ=>by
  have hall:Chg (fun q _=>q=p∨q=R) V' Z:=HC4.o.trans hZ
  refine ⟨hall.mono (fun q i hq hm=>by
   have:=HVS.o;have:=HLT.o
   rcases hm with h | h<;> omega),?_⟩
  have h2:Chg (fun q _=>q=p∨w.heap.size≤q) w V:=Chg.of_below' HVW.o (fun k i hk _=> .inr hk)
  have h3:Chg (fun q _=>q=p∨w.heap.size≤q) V V':=HC.o.mono (fun q i hq hm=> .inl hm)
  have h4:Chg (fun q _=>q=p∨w.heap.size≤q) V' Z:=hall.mono (fun q i hq hm=>by
   rcases hm with h | h
   ·exact .inl h
   ·right;have:=HLT.o;omega)
  exact ((h2.trans h3).trans h4).mono (fun q i hq hm=>by
   rcases hm with h | h
   ·exact h
   ·omega))
 clear r0 rf b0
 by_cases her:er=0
 ·subst her
  refine leaves_cons (f:= 302) (args:= #[.pointer (some ⟨St,0,none⟩),.pointer (some ⟨Rb,0,none⟩),.pointer (some ⟨R,0,none⟩)]) (by simp) (by simp [go_sem]) ?_
  refine (rvC_keep p St Rb R ad n c off' last o z .returning _ HR4.o HA6.o HA5.o HA4.o ⟨HN.o.2.2.2.2,HN.o.2.2.2.1,HN.o.1,HN.o.2.2.1,HN.o.2.1⟩).mono ?_
  rintro e u' Z ⟨rfl,rfl,h1,h2,h3⟩
  have hc:=(one_cells h2).1
  refine ⟨.int .i64 z,by simp [results,Tryz.results262,go_sem,hc],?_⟩
  exact ⟨z,0,off',V,V',HVW.o,HO.o,HC.o,(HFIN.o Z h3).1,(HFIN.o Z h3).2,.inl ⟨rfl,rfl,h1⟩⟩
 ·refine leaves_cons (f:= 302) (args:= #[.pointer (some ⟨St,0,none⟩),.pointer (some ⟨Rb,0,none⟩),.pointer (some ⟨R,0,none⟩)]) (by simp) (by simp [go_sem]) ?_
  refine (rvC_drop p St Rb R ad n c off' last o er z her .returning _ HR4.o HA6.o HA5.o HA4.o ⟨HN.o.2.2.2.2,HN.o.2.2.2.1,HN.o.1,HN.o.2.2.1,HN.o.2.1⟩).mono ?_
  rintro e u' Z ⟨rfl,rfl,h1,h2,h3⟩
  have hc:=(one_cells h2).1
  refine ⟨.int .i64 0,by simp [results,Tryz.results262,go_sem,hc],?_⟩
  exact ⟨z,er,off',V,V',HVW.o,HO.o,HC.o,(HFIN.o Z h3).1,(HFIN.o Z h3).2,.inr ⟨her,rfl,h1⟩⟩
theorem rvS_run (OUT:ByteArray→Int→Int→World→World→Prop) (B1:Nat) (p:Nat) (ad:Option Addr) (n c:Nat) (o last:Int) (w:World) (hr:RdRow w p ad n c o last 0)
    (hD: ∀V,Below w.heap.size w V→RdRow V p ad n c o last 0→Calls Tryz.prog 205 #[.pointer (some ⟨B1,0,none⟩)] V fun e V'=> ∃(z:ByteArray) (er off':Int),e= .returned (.tuple #[.string z,.int .i64 er])∧RdRow V' p ad n c off' last 0∧Chg (RdM p) V V'∧OUT z er off' V V'):
    Calls Tryz.prog 204 #[.pointer (some ⟨p,0,none⟩),.func (.func 205) #[] #[.pointer (some ⟨B1,0,none⟩)]] w fun e w'=>RvT OUT p ad n c o w e w':=by
 have HR:=hid hr
 have HD:=hid hD
 have hmf: ∀(fn:Fn) (first cap:Array Value) (w:World),(Instr.makeFunc fn first cap).run Tryz.prog w= .ok (.func fn first cap) w:=fun _ _ _ _=>rfl
 clear hr hD
 go_enter_defers Tryz.func204,Tryz.ntmps204
 go_upto_region 1 with fail
 refine wp_over (fun V=>Hid (V.heap[w.heap.size]? =some (.cells #[.pointer (some ⟨p,0,none⟩)] 171 (0,0)))∧Hid (V.heap[w.heap.size+1]? =some (.cells #[.string ByteArray.empty] 9 (0,0)))∧Hid (Below w.heap.size w V)∧Hid (V.heap.size=w.heap.size+2)) ⟨two_rows1,two_rows2,two_below,two_size⟩ ?_
 rintro W ⟨HB1,HB2,HB,HWS⟩
 have HRW:Hid (RdRow W p ad n c o last 0):=hid (HR.o.later HB.o HR.o.lt)
 obtain ⟨c0,c1,c2,c3,cf⟩:=HRW.o.cells
 obtain ⟨b0,_⟩:=one_cells HB1.o
 obtain ⟨r0,rf⟩:=one_cells HB2.o
 obtain ⟨Rb,hRb⟩:=ex_eq w.heap.size
 obtain ⟨R,hR⟩:=ex_eq (w.heap.size+1)
 have HRR:=hid (And.intro hRb hR)
 rw [hR] at HB2 r0 rf ⊢
 rw [hRb] at HB1 b0 ⊢
 clear cf hRb hR
 go_upto_region 5 with fail
 refine wp_over (fun V=>Hid (V.heap[W.heap.size]? =some (.cells #[.int .i64 o] 3 (0,0)))∧Hid (V.heap.size=W.heap.size+1)∧Hid (Below W.heap.size W V)) ⟨heap_alloc_new _ _,by show _=_;simp,(Below.refl _ _).alloc (Nat.le_refl _) _⟩ ?_
 rintro Y ⟨HB3,HYS,HYB⟩
 obtain ⟨St,hSt⟩:=ex_eq W.heap.size
 have HSt:=hid hSt
 rw [hSt] at HB3 HYS HYB ⊢
 clear hSt c0 c1 c2 c3 b0 r0 rf
 have HLT:Hid (p<Rb∧R=Rb+1∧St=Rb+2∧Rb=w.heap.size):=hid (by have h1:=HR.o.lt;have h2:=HRR.o;have h3:=HWS.o;have h4:=HSt.o;omega)
 have HYW:Hid (Below w.heap.size w Y):=hid (HB.o.trans (HYB.o.mono (by have:=HLT.o;omega)))
 have HB1:Hid (Y.heap[Rb]? =some (.cells #[.pointer (some ⟨p,0,none⟩)] 171 (0,0))):=hid ((HYB.o.block Rb (by have:=HLT.o;omega)).trans HB1.o)
 have HB2:Hid (Y.heap[R]? =some (.cells #[.string ByteArray.empty] 9 (0,0))):=hid ((HYB.o.block R (by have:=HLT.o;omega)).trans HB2.o)
 have HRY:Hid (RdRow Y p ad n c o last 0):=hid (HR.o.later HYW.o HR.o.lt)
 have b0:=(one_cells HB1.o).1
 refine Kit.wp_region_gplan (fun V=>V.cell? ⟨Rb,0,none⟩=some (.pointer (some ⟨p,0,none⟩))) [(true,0),(true,1),(false,2),(true,3),(true,4),(true,5),(false,6),(true,7),(true,8),(false,9)] (by kernel_rfl) (by kernel_rfl) (by kernel_rfl) (by kernel_rfl) b0 ?_
 iterate 2 (refine Kit.ghd (h:= ?_))
 have HV0:Hid (Below Y.heap.size Y Y.drew):=hid (Below.refl _ _).drew
 obtain ⟨V,hV⟩:=ex_eq Y.drew
 rw [hV] at HV0 ⊢
 have HVS:Hid (V.heap.size=St+1):=hid (by rw [← hV];exact HYS.o)
 clear hV b0
 have HVW:Hid (Below w.heap.size w V):=hid (HYW.o.trans (HV0.o.mono (by have:=HYW.o.size;omega)))
 have HRV:Hid (RdRow V p ad n c o last 0):=hid (HRY.o.later HV0.o HRY.o.lt)
 refine Kit.gplan_op (by rfl) (by rfl) fun K hK=> ?_
 go_simp
 go_at_call 205
 with_reducible refine (HD.o V HVW.o HRV.o).mono ?_
 rintro e V' ⟨z,er,off',rfl,hrow,hchg,hout⟩
 have HRV':=hid hrow
 have HC:=hid hchg
 have HO:=hid hout
 have HSZ:Hid (St+1≤V'.heap.size):=hid (by have:=hchg.size;have:=HVS.o;omega)
 have HB1:Hid (V'.heap[Rb]? =some (.cells #[.pointer (some ⟨p,0,none⟩)] 171 (0,0))):=hid ((hchg.other Rb (by have:=HVS.o;have:=HLT.o;omega) (fun i hm=>by have h1:Rb=p:=hm;have:=HLT.o;omega)).trans ((HV0.o.block Rb (by have:=HYS.o;have:=HLT.o;omega)).trans HB1.o))
 have HB2:Hid (V'.heap[R]? =some (.cells #[.string ByteArray.empty] 9 (0,0))):=hid ((hchg.other R (by have:=HVS.o;have:=HLT.o;omega) (fun i hm=>by have h1:R=p:=hm;have:=HLT.o;omega)).trans ((HV0.o.block R (by have:=HYS.o;have:=HLT.o;omega)).trans HB2.o))
 have HB3:Hid (V'.heap[St]? =some (.cells #[.int .i64 o] 3 (0,0))):=hid ((hchg.other St (by have:=HVS.o;omega) (fun i hm=>by have h1:St=p:=hm;have:=HLT.o;omega)).trans ((HV0.o.block St (by have:=HYS.o;omega)).trans HB3.o))
 clear hrow hchg hout
 obtain ⟨r0,rf⟩:=one_cells HB2.o
 have b0:=(one_cells HB1.o).1
 refine hK _ _ b0 ?_
 clear hK K
 iterate 3 (refine Kit.ghd (h:= ?_))
 refine Kit.gplan_op (by rfl) (by rfl) fun K hK=> ?_
 go_simp
 obtain ⟨Y1,hY1⟩:=ex_eq (V'.setCell ⟨R,0,none⟩ (.string z))
 rw [hY1]
 have HN:Hid (p≠R∧Rb≠R∧St≠R∧p≠Rb∧p≠St):=hid (by have:=HLT.o;omega)
 have HR1:Hid (RdRow Y1 p ad n c off' last 0):=hid (by rw [← hY1];exact HRV'.o.ne HN.o.1 _)
 have HA1:Hid (Y1.heap[Rb]? =some (.cells #[.pointer (some ⟨p,0,none⟩)] 171 (0,0))):=hid (by rw [← hY1];exact (heap_put_ne HN.o.2.1).trans HB1.o)
 have HA2:Hid (Y1.heap[R]? =some (.cells #[.string z] 9 (0,0))):=hid (by rw [← hY1];exact one_put HB2.o _)
 have HA3:Hid (Y1.heap[St]? =some (.cells #[.int .i64 o] 3 (0,0))):=hid (by rw [← hY1];exact (heap_put_ne HN.o.2.2.1).trans HB3.o)
 have HC1:Hid (Chg (fun q _=>q=p∨q=R) V' Y1):=hid (by rw [← hY1];exact (Chg.refl _ _).setCell _ (.inr rfl))
 clear hY1 r0 rf b0
 have b0:=(one_cells HA1.o).1
 refine hK _ _ b0 ?_
 clear hK K
 obtain ⟨c0,c1,c2,c3,cf⟩:=HR1.o.cells
 have f3:=cf 3
 iterate 2 (refine Kit.ghd (h:= ?_))
 refine Kit.gplan_op (by rfl) (by rfl) fun K hK=> ?_
 go_simp
 obtain ⟨Y2,hY2⟩:=ex_eq (Y1.setCell ⟨p,3,none⟩ (.int .i64 er))
 rw [hY2]
 have HR2:Hid (RdRow Y2 p ad n c off' last er):=hid (by rw [← hY2];exact HR1.o.put3 _)
 have HN2:Hid (R≠p∧Rb≠p∧St≠p):=hid (by have:=HLT.o;omega)
 have HA1:Hid (Y2.heap[Rb]? =some (.cells #[.pointer (some ⟨p,0,none⟩)] 171 (0,0))):=hid (by rw [← hY2];exact (heap_put_ne HN2.o.2.1).trans HA1.o)
 have HA2:Hid (Y2.heap[R]? =some (.cells #[.string z] 9 (0,0))):=hid (by rw [← hY2];exact (heap_put_ne HN2.o.1).trans HA2.o)
 have HA3:Hid (Y2.heap[St]? =some (.cells #[.int .i64 o] 3 (0,0))):=hid (by rw [← hY2];exact (heap_put_ne HN2.o.2.2).trans HA3.o)
 have HC2:Hid (Chg (fun q _=>q=p∨q=R) V' Y2):=hid (by rw [← hY2];exact HC1.o.setCell _ (.inl rfl))
 clear hY2 c0 c1 c2 c3 cf f3 b0
 have b0:=(one_cells HA1.o).1
 refine hK _ _ b0 ?_
 clear hK K
 refine Kit.gdn (h:=?_)
 obtain ⟨r0,rf⟩:=one_cells HA2.o
 go_wp2_with fail
 have HA4:Hid ((Y2.setCell ⟨R,0,none⟩ (.string z)).heap[R]? =some (.cells #[.string z] 9 (0,0))):=hid (one_put HA2.o _)
 have HA5:Hid ((Y2.setCell ⟨R,0,none⟩ (.string z)).heap[Rb]? =some (.cells #[.pointer (some ⟨p,0,none⟩)] 171 (0,0))):=hid ((heap_put_ne HN.o.2.1).trans HA1.o)
 have HA6:Hid ((Y2.setCell ⟨R,0,none⟩ (.string z)).heap[St]? =some (.cells #[.int .i64 o] 3 (0,0))):=hid ((heap_put_ne HN.o.2.2.1).trans HA3.o)
 have HR4:Hid (RdRow (Y2.setCell ⟨R,0,none⟩ (.string z)) p ad n c off' last er):=hid (HR2.o.ne HN.o.1 _)
 have HC4:Hid (Chg (fun q _=>q=p∨q=R) V' (Y2.setCell ⟨R,0,none⟩ (.string z))):=hid (HC2.o.setCell _ (.inr rfl))
 have HFIN:Hid (∀Z,Chg (fun q _=>q=p∨q=R) (Y2.setCell ⟨R,0,none⟩ (.string z)) Z→Chg (fun q _=>q<V.heap.size) V' Z∧Chg (RdM p) w Z):=hid (fun Z hZ=>by
  have hall:Chg (fun q _=>q=p∨q=R) V' Z:=HC4.o.trans hZ
  refine ⟨hall.mono (fun q i hq hm=>by
   have:=HVS.o;have:=HLT.o
   rcases hm with h | h<;> omega),?_⟩
  have h2:Chg (fun q _=>q=p∨w.heap.size≤q) w V:=Chg.of_below' HVW.o (fun k i hk _=> .inr hk)
  have h3:Chg (fun q _=>q=p∨w.heap.size≤q) V V':=HC.o.mono (fun q i hq hm=> .inl hm)
  have h4:Chg (fun q _=>q=p∨w.heap.size≤q) V' Z:=hall.mono (fun q i hq hm=>by
   rcases hm with h | h
   ·exact .inl h
   ·right;have:=HLT.o;omega)
  exact ((h2.trans h3).trans h4).mono (fun q i hq hm=>by
   rcases hm with h | h
   ·exact h
   ·omega))
 clear r0 rf b0
 by_cases her:er=0
 ·subst her
  refine leaves_cons (f:= 261) (args:= #[.pointer (some ⟨St,0,none⟩),.pointer (some ⟨Rb,0,none⟩),.pointer (some ⟨R,0,none⟩)]) (by simp) (by simp [go_sem]) ?_
  refine (rvT_keep p St Rb R ad n c off' last o z .returning _ HR4.o HA6.o HA5.o HA4.o ⟨HN.o.2.2.2.2,HN.o.2.2.2.1,HN.o.1,HN.o.2.2.1,HN.o.2.1⟩).mono ?_
  rintro e u' Z ⟨rfl,rfl,h1,h2,h3⟩
  have hc:=(one_cells h2).1
  refine ⟨.string z,by simp [results,Tryz.results204,go_sem,hc],?_⟩
  exact ⟨z,0,off',V,V',HVW.o,HO.o,HC.o,(HFIN.o Z h3).1,(HFIN.o Z h3).2,.inl ⟨rfl,rfl,h1⟩⟩
 ·refine leaves_cons (f:= 261) (args:= #[.pointer (some ⟨St,0,none⟩),.pointer (some ⟨Rb,0,none⟩),.pointer (some ⟨R,0,none⟩)]) (by simp) (by simp [go_sem]) ?_
  refine (rvT_drop p St Rb R ad n c off' last o er z her .returning _ HR4.o HA6.o HA5.o HA4.o ⟨HN.o.2.2.2.2,HN.o.2.2.2.1,HN.o.1,HN.o.2.2.1,HN.o.2.1⟩).mono ?_
  rintro e u' Z ⟨rfl,rfl,h1,h2,h3⟩
  have hc:=(one_cells h2).1
  refine ⟨.string ByteArray.empty,by simp [results,Tryz.results204,go_sem,hc],?_⟩
  exact ⟨z,er,off',V,V',HVW.o,HO.o,HC.o,(HFIN.o Z h3).1,(HFIN.o Z h3).2,.inr ⟨her,rfl,h1⟩⟩
def DecSm (D:List Nat) (n o:Nat) (z:ByteArray) (er off':Int) (V V':World):Prop:=match rdTake 32 (D.drop o) with
 | some (x,r)=>er=0∧(∃o':Nat,off'=(o':Int)∧o'≤n∧D.drop o'=r)∧z=strB x
 | none=>er≠0
def DecC (D:List Nat) (n m o:Nat) (z er off':Int) (V V':World):Prop:=match rdLim m (D.drop o) with
 | some (v,r)=>er=0∧(∃o':Nat,off'=(o':Int)∧o'≤n∧D.drop o'=r)∧z=(v:Int)
 | none=>er≠0
theorem decSm_any (B1 p:Nat) (ad:Option Addr) (n c:Nat) (D:List Nat) (o:Nat) (ho:o≤n) (last:Int) (w:World) (hr:RdRow w p ad n c (o:Int) last 0) (hD:RdD w p ad n c D) (h1:w.heap[B1]? =some (.cells #[.pointer (some ⟨p,0,none⟩)] 171 (0,0))):
    Calls Tryz.prog 205 #[.pointer (some ⟨B1,0,none⟩)] w fun e w'=> ∃(z:ByteArray) (er off':Int),e= .returned (.tuple #[.string z,.int .i64 er])∧RdRow w' p ad n c off' last 0∧Chg (RdM p) w w'∧DecSm D n o z er off' w w':=by
 have HD:=hid hD
 have d1:=(one_cells h1).1
 by_cases hk:n<o+32
 ·have HT:Hid (Calls Tryz.prog 206 #[.pointer (some ⟨p,0,none⟩),.int .i64 (32:Int)] w fun e w'=>e= .returned (.tuple #[.slice none 0 0,.int .i64 3])∧RdRow w' p ad n c (o:Int) last 0∧Chg (RdM p) w w'):=hid (take_bad p ad c n hD.small o 32 ho hk (by decide) last w hr)
  have HN:Hid (rdTake 32 (D.drop o)=none):=hid (by unfold rdTake;exact if_neg (by rw [List.length_drop,hD.len];omega))
  clear hr hD h1 hk
  go_enter Tryz.func205,Tryz.ntmps205
  go_upto_region 2 with fail
  go_at_call 206
  with_reducible refine HT.o.mono ?_
  rintro e w2 ⟨rfl,hrow,hchg⟩
  have HR:=hid hrow
  have HC:=hid hchg
  clear hrow hchg d1
  go_upto_region 2 with fail
  have hcv:=conv_bytes (w:=w2) (a:=none) (bs:=[]) ⟨.inl rfl,by simp,by simp⟩ 0
  simp only [List.length_nil] at hcv
  obtain ⟨z,hz⟩:=ex_eq (strB [])
  rw [hz] at hcv
  clear hz
  go_wp2_with fail
  go_ret2
  exact ⟨z,3,(o:Int),rfl,HR.o,HC.o,by unfold DecSm;rw [HN.o];show (3:Int)≠0;decide⟩
 ·have HT:Hid (Calls Tryz.prog 206 #[.pointer (some ⟨p,0,none⟩),.int .i64 (32:Int)] w fun e w'=>e= .returned (.tuple #[.slice (subA ad o c) 32 (c - o),.int .i64 0])∧RdRow w' p ad n c ((o+32:Nat):Int) last 0∧Chg (RdM p) w w'):=hid (take_good p ad c n hD.small hD.cap o 32 (by omega) last w hr)
  have HN:Hid (rdTake 32 (D.drop o)=some ((D.drop o).take 32,(D.drop o).drop 32)):=hid (by unfold rdTake;exact if_pos (by rw [List.length_drop,hD.len];omega))
  have HK:Hid (o+32≤n):=hid (by omega)
  clear hr hD h1 hk
  go_enter Tryz.func205,Tryz.ntmps205
  go_upto_region 2 with (first
   | (go_at_call 206
      (with_reducible refine HT.o.mono ?_)
      rintro e w2 ⟨rfl,hrow,hchg⟩
      have HR:=hid hrow
      have HC:=hid hchg
      clear hrow hchg d1))
  have HX3:Hid (BytesAt w2 (subA ad o c) ((D.drop o).take 32)):=hid (by
   rw [drop_take_drop]
   exact bytesAt_sub (HD.o.chg HC.o).bytes (by rw [HD.o.len];exact HD.o.cap) o (o+32))
  have hcv:=conv_bytes HX3.o (c - o)
  rw [show ((D.drop o).take 32).length=32 by rw [List.length_take,List.length_drop,HD.o.len];have:=HK.o;omega] at hcv
  obtain ⟨z,hz⟩:=ex_eq (strB ((D.drop o).take 32))
  rw [hz] at hcv
  have HZ:=hid hz
  clear hz
  obtain ⟨sd,hsd⟩:=ex_eq (subA ad o c)
  obtain ⟨c',hc'⟩:=ex_eq (c - o)
  rw [hsd,hc'] at hcv ⊢
  clear hsd hc'
  go_wp2_with fail
  go_ret2
  exact ⟨z,0,((o+32:Nat):Int),rfl,HR.o,HC.o,by unfold DecSm;rw [HN.o];exact ⟨rfl,⟨o+32,rfl,HK.o,by rw [List.drop_drop]⟩,HZ.o.symm⟩⟩
theorem decC_any (B1 B2 p:Nat) (ad:Option Addr) (n c:Nat) (D:List Nat) (m:Nat) (hm:m≤1000000000) (o:Nat) (ho:o≤n) (last:Int) (w:World) (hr:RdRow w p ad n c (o:Int) last 0) (hD:RdD w p ad n c D) (h1:w.heap[B1]? =some (.cells #[.pointer (some ⟨p,0,none⟩)] 171 (0,0))) (h2:w.heap[B2]? =some (.cells #[.int .i64 (m:Int)] 3 (0,0))):
    Calls Tryz.prog 263 #[.pointer (some ⟨B1,0,none⟩),.pointer (some ⟨B2,0,none⟩)] w fun e w'=> ∃(z:Int) (er off':Int),e= .returned (.tuple #[.int .i64 z,.int .i64 er])∧RdRow w' p ad n c off' last 0∧Chg (RdM p) w w'∧DecC D n m o z er off' w w':=by
 have HBK:=hid (limited_any p ad c n D hD.len hD.small m hm o ho last w hr hD.bytes hD.ne)
 have HD:=hid hD
 have d1:=(one_cells h1).1
 have d2:=(one_cells h2).1
 clear hr hD h1 h2
 go_enter Tryz.func263,Tryz.ntmps263
 go_wp2_with (first
  | (go_at_call 264
     (with_reducible refine HBK.o.mono ?_)
     rintro e w2 ⟨o',u,er,rfl,ho',hrow,hchg,hout⟩
     have HO:=hid ho'
     have HR:=hid hrow
     have HC:=hid hchg
     have HU:=hid hout
     clear ho' hrow hchg hout d1 d2))
 go_ret2
 refine ⟨u,er,(o':Int),rfl,HR.o,HC.o,?_⟩
 have h:=HU.o
 unfold LimOut at h
 unfold DecC
 cases hq:rdLim m (D.drop o) with
 | none=>rw [hq] at h;exact h.2
 | some x=>obtain ⟨v,r⟩:=x;rw [hq] at h;exact ⟨h.2.1,⟨o',rfl,HO.o,h.2.2.1⟩,h.1⟩
theorem rdCount_any (p:Nat) (D:List Nat) (s:RS) (hl:D.length≤1000000000) (m:Nat) (hm:m≤1000000000) (w:World) (hR:RdAt w p D s):
    Calls Tryz.prog 207 #[.pointer (some ⟨p,0,none⟩),.int .i64 (m:Int)] w fun e w'=>e= .returned (.int .i64 ((rdU m s).1:Int))∧RdAt w' p D (rdU m s).2∧Chg (RdM p) w w':=by
 obtain ⟨ad,c,off,last,er,hrow,hdat,hst⟩:=hR.parts hl
 have hmf: ∀(fn:Fn) (first cap:Array Value) (w:World),(Instr.makeFunc fn first cap).run Tryz.prog w= .ok (.func fn first cap) w:=fun _ _ _ _=>rfl
 have HRW:=hid hrow
 have HD:=hid hdat
 have HST:=hid hst
 have HM:Hid (m≤1000000000):=hid hm
 obtain ⟨X,hX⟩:=ex_eq (rdU m s)
 have HX:=hid hX
 rw [hX]
 clear hR hrow hdat hst hX hm
 go_enter Tryz.func207,Tryz.ntmps207
 go_upto_region 1 with fail
 refine wp_over (fun V=>Hid (V.heap[w.heap.size]? =some (.cells #[.pointer (some ⟨p,0,none⟩)] 171 (0,0)))∧Hid (V.heap[w.heap.size+1]? =some (.cells #[.int .i64 (m:Int)] 3 (0,0)))∧Hid (Below w.heap.size w V)∧Hid (V.heap.size=w.heap.size+2)) ⟨two_rows1,two_rows2,two_below,two_size⟩ ?_
 rintro W ⟨HB1,HB2,HB,HWS⟩
 obtain ⟨B1,hB1⟩:=ex_eq w.heap.size
 obtain ⟨B2,hB2⟩:=ex_eq (w.heap.size+1)
 have HBB:Hid (w.heap.size=B1∧B2=B1+1):=hid (by omega)
 rw [hB2] at HB2 ⊢
 rw [hB1] at HB1 ⊢
 clear hB1 hB2
 have HRW2:=hid (HRW.o.later HB.o HRW.o.lt)
 have HD2:=hid (HD.o.later HB.o)
 have b0:=(one_cells HB1.o).1
 cases s with
 | none=>
   have HE:Hid (er≠0):=HST
   have hXX:X=(0,none):=HX.o.symm
   subst hXX
   go_wp2_with (first
    | (go_at_call 262
       (with_reducible refine (rvC_bad p ad D.length c off last er HE.o _ W HRW2.o).mono ?_)
       rintro e w2 ⟨rfl,h2⟩
       have H3:Hid (Below w.heap.size w w2):=hid (HB.o.trans (h2.mono (by have:=HWS.o;omega)))
       clear h2 b0))
   go_ret
   exact ⟨rfl,.make (HRW.o.later H3.o HRW.o.lt) (HD.o.later H3.o) HE.o,Chg.of_below' H3.o (fun k i hk h=>absurd h (by omega))⟩
 | some bs=>
   obtain ⟨rfl,o,rfl,ho,hdrop⟩:=HST.o
   have HO:=hid ho
   have HDR:=hid hdrop
   have HRV:=hid (rvC_run (DecC D D.length m o) B1 B2 p ad D.length c (o:Int) last W HRW2.o (fun V hV hr=>decC_any B1 B2 p ad D.length c D m HM.o o HO.o last V hr (HD2.o.later hV) ((hV.block B1 (by have:=HWS.o;have:=HBB.o;omega)).trans HB1.o) ((hV.block B2 (by have:=HWS.o;have:=HBB.o;omega)).trans HB2.o)))
   clear ho hdrop
   go_wp2_with (first
    | (go_at_call 262
       (with_reducible refine HRV.o.mono ?_)
       rintro e w2 ⟨z,er,off',V,V',h1,h2,h3,h4,h5,h6⟩
       have H1:=hid h1
       have H2:=hid h2
       have H4:=hid h4
       have H5:Hid (Chg (RdM p) w w2):=hid ((Chg.of_below' HB.o (fun k i hk h=>absurd h (by omega))).trans h5)
       have H6:=hid h6
       clear h1 h2 h3 h4 h5 h6 b0
       rcases H6.o with ⟨he,rfl,hrow⟩ | ⟨he,rfl,hrow⟩))
   ·have HROW:=hid hrow
    have HER:=hid he
    have HVW:Hid (Below w.heap.size w V):=hid (HB.o.trans (H1.o.mono (by have:=HWS.o;omega)))
    clear hrow he
    go_wp2_with fail
    go_ret
    have h2:=H2.o
    unfold DecC at h2
    rw [HDR.o] at h2
    cases hq:rdLim m bs with
    | none=>rw [hq] at h2;exact absurd HER.o h2
    | some x=>
      obtain ⟨v,r⟩:=x
      rw [hq] at h2
      obtain ⟨_,⟨o',h7,h8,h9⟩,h10⟩:=h2
      have hXX:X=(v,some r):=by rw [← HX.o,rdU_some',hq]
      subst hXX
      exact ⟨by rw [h10];rfl,.make HROW.o (HD.o.chg H5.o) ⟨rfl,o',h7,h8,h9⟩,H5.o⟩
   ·have HROW:=hid hrow
    have HER:=hid he
    clear hrow he
    go_wp2_with fail
    go_ret
    have h2:=H2.o
    unfold DecC at h2
    rw [HDR.o] at h2
    cases hq:rdLim m bs with
    | none=>
      have hXX:X=(0,none):=by rw [← HX.o,rdU_some',hq]
      subst hXX
      exact ⟨rfl,.make HROW.o (HD.o.chg H5.o) HER.o,H5.o⟩
    | some x=>obtain ⟨v,r⟩:=x;rw [hq] at h2;exact absurd h2.1 HER.o
theorem rdS_some' (bs:List Nat):rdS (some bs)=match rdTake 32 bs with | some (x,r)=>(x,some r) | none=>([],none):=rfl
theorem rdSum_any (p:Nat) (D:List Nat) (s:RS) (hl:D.length≤1000000000) (w:World) (hR:RdAt w p D s):
    Calls Tryz.prog 111 #[.pointer (some ⟨p,0,none⟩)] w fun e w'=>e= .returned (.string (strB (rdS s).1))∧RdAt w' p D (rdS s).2∧Chg (RdM p) w w':=by
 obtain ⟨ad,c,off,last,er,hrow,hdat,hst⟩:=hR.parts hl
 have hmf: ∀(fn:Fn) (first cap:Array Value) (w:World),(Instr.makeFunc fn first cap).run Tryz.prog w= .ok (.func fn first cap) w:=fun _ _ _ _=>rfl
 have HRW:=hid hrow
 have HD:=hid hdat
 have HST:=hid hst
 obtain ⟨X,hX⟩:=ex_eq (rdS s)
 have HX:=hid hX
 rw [hX]
 clear hR hrow hdat hst hX
 go_enter Tryz.func111,Tryz.ntmps111
 go_upto_region 1 with fail
 refine wp_over (fun V=>Hid (V.heap[w.heap.size]? =some (.cells #[.pointer (some ⟨p,0,none⟩)] 171 (0,0)))∧Hid (Below w.heap.size w V)∧Hid (V.heap.size=w.heap.size+1)) ⟨hid (heap_alloc_new _ _),hid ((Below.refl _ _).alloc (Nat.le_refl _) _),hid (by simp only [World.size_alloc])⟩ ?_
 rintro W ⟨HB1,HB,HWS⟩
 obtain ⟨B1,hB1⟩:=ex_eq w.heap.size
 have HBB:Hid (w.heap.size=B1):=hid (by omega)
 rw [hB1] at HB1 ⊢
 clear hB1
 have HRW2:=hid (HRW.o.later HB.o HRW.o.lt)
 have HD2:=hid (HD.o.later HB.o)
 have b0:=(one_cells HB1.o).1
 cases s with
 | none=>
   have HE:Hid (er≠0):=HST
   have hXX:X=([],none):=HX.o.symm
   subst hXX
   go_wp2_with (first
    | (go_at_call 204
       (with_reducible refine (rvT_bad p ad D.length c off last er HE.o _ W HRW2.o).mono ?_)
       rintro e w2 ⟨rfl,h2⟩
       have H3:Hid (Below w.heap.size w w2):=hid (HB.o.trans (h2.mono (by have:=HWS.o;omega)))
       clear h2 b0))
   go_ret
   exact ⟨by first | rfl | (rw [strB_nil];rfl),.make (HRW.o.later H3.o HRW.o.lt) (HD.o.later H3.o) HE.o,Chg.of_below' H3.o (fun k i hk h=>absurd h (by omega))⟩
 | some bs=>
   obtain ⟨rfl,o,rfl,ho,hdrop⟩:=HST.o
   have HO:=hid ho
   have HDR:=hid hdrop
   have HRV:=hid (rvS_run (DecSm D D.length o) B1 p ad D.length c (o:Int) last W HRW2.o (fun V hV hr=>decSm_any B1 p ad D.length c D o HO.o last V hr (HD2.o.later hV) ((hV.block B1 (by have:=HWS.o;have:=HBB.o;omega)).trans HB1.o)))
   clear ho hdrop
   go_wp2_with (first
    | (go_at_call 204
       (with_reducible refine HRV.o.mono ?_)
       rintro e w2 ⟨z,er,off',V,V',h1,h2,h3,h4,h5,h6⟩
       have H1:=hid h1
       have H2:=hid h2
       have H4:=hid h4
       have H5:Hid (Chg (RdM p) w w2):=hid ((Chg.of_below' HB.o (fun k i hk h=>absurd h (by omega))).trans h5)
       have H6:=hid h6
       clear h1 h2 h3 h4 h5 h6 b0
       rcases H6.o with ⟨he,rfl,hrow⟩ | ⟨he,rfl,hrow⟩))
   ·have HROW:=hid hrow
    have HER:=hid he
    have HVW:Hid (Below w.heap.size w V):=hid (HB.o.trans (H1.o.mono (by have:=HWS.o;omega)))
    clear hrow he
    go_wp2_with fail
    go_ret
    have h2:=H2.o
    unfold DecSm at h2
    rw [HDR.o] at h2
    cases hq:rdTake 32 bs with
    | none=>rw [hq] at h2;exact absurd HER.o h2
    | some x=>
      obtain ⟨v,r⟩:=x
      rw [hq] at h2
      obtain ⟨_,⟨o',h7,h8,h9⟩,h10⟩:=h2
      have hXX:X=(v,some r):=by rw [← HX.o,rdS_some',hq]
      subst hXX
      exact ⟨by rw [h10];rfl,.make HROW.o (HD.o.chg H5.o) ⟨rfl,o',h7,h8,h9⟩,H5.o⟩
   ·have HROW:=hid hrow
    have HER:=hid he
    clear hrow he
    go_wp2_with fail
    go_ret
    have h2:=H2.o
    unfold DecSm at h2
    rw [HDR.o] at h2
    cases hq:rdTake 32 bs with
    | none=>
      have hXX:X=([],none):=by rw [← HX.o,rdS_some',hq]
      subst hXX
      exact ⟨by rw [strB_nil];rfl,.make HROW.o (HD.o.chg H5.o) HER.o,H5.o⟩
    | some x=>obtain ⟨v,r⟩:=x;rw [hq] at h2;exact absurd h2.1 HER.o
theorem readUintR_any (p:Nat) (D:List Nat) (s:RS) (hl:D.length≤1000000000) (w:World) (hR:RdAt w p D s):
    Calls Tryz.prog 110 #[.pointer (some ⟨p,0,none⟩)] w fun e w'=>e= .returned (.int .i64 ((rdU mx s).1:Int))∧RdAt w' p D (rdU mx s).2∧Chg (RdM p) w w':=by
 have HU:=hid (rdUint_any p D s hl w hR)
 have HF:=hid (fun bs w h=>fail_any p D bs hl w h)
 obtain ⟨X,hX⟩:=ex_eq (rdU mx s)
 have HX:=hid hX
 rw [hX]
 obtain ⟨⟨n,s'⟩,hY⟩:=ex_eq (rdN s)
 have HY:=hid hY
 rw [hY] at HU
 clear hX hY hR
 have hcase:(n≤1099511627776∧X=(n,s'))∨(1099511627776<n∧X=(0,none)∧ ∃r,s'=some r):=by
  have h1:=HX.o
  have h2:=HY.o
  cases s with
  | none=>cases h2;exact .inl ⟨by omega,h1.symm⟩
  | some bs=>
    rw [rdN_some] at h2
    rw [rdU_some',rdLim_eq] at h1
    cases hq:rdNum bs with
    | none=>rw [hq] at h1 h2;cases h2;exact .inl ⟨by omega,h1.symm⟩
    | some x=>
      obtain ⟨v,r⟩:=x
      rw [hq] at h1 h2
      cases h2
      by_cases hv:n≤mx
      ·simp only [if_pos hv] at h1
       exact .inl ⟨hv,h1.symm⟩
      ·simp only [if_neg hv] at h1
       exact .inr ⟨Nat.lt_of_not_le hv,h1.symm,r,rfl⟩
 rcases hcase with ⟨hn,rfl⟩ | ⟨hn,rfl,r,rfl⟩
 ·have hlt: ¬(1099511627776:Int)<(n:Int):=by omega
  have hwn:IntKind.i64.wrap (n:Int)=(n:Int):=by rw [IntKind.wrap_i64];omega
  clear hn
  go_enter Tryz.func110,Tryz.ntmps110
  go_wp2_with (first
   | (go_at_call 202
      (with_reducible refine HU.o.mono ?_)
      rintro e w2 ⟨rfl,h2,h3⟩
      have H2:=hid h2
      have H3:=hid h3
      clear h2 h3))
  go_ret
  exact ⟨rfl,H2.o,H3.o⟩
 ·have hlt:(1099511627776:Int)<(n:Int):=by omega
  clear hn
  go_enter Tryz.func110,Tryz.ntmps110
  go_wp2_with (first
   | (go_at_call 202
      (with_reducible refine HU.o.mono ?_)
      rintro e w2 ⟨rfl,h2,h3⟩
      have H2:=hid h2
      have H3:=hid h3
      clear h2 h3)
   | (go_at_call 203
      (with_reducible refine (HF.o r w2 H2.o).mono ?_)
      rintro e w3 ⟨rfl,h4,h5⟩
      have H4:=hid h4
      have H5:=hid (H3.o.trans h5)
      clear h4 h5))
  go_ret
  exact ⟨rfl,H4.o,H5.o⟩
theorem strV_cellR {w:World} {b k:Nat} {ss:List ByteArray} {f:Nat × Nat} (h:w.heap[b]? =some (.cells (strV ss).toArray 9 f)) (hk:k<ss.length):w.cell? ⟨b,k,none⟩=some (.string ss[k]):=(cell_of_row _ _ _ _ _ _ h).trans (by
 unfold strV
 simp [hk])
theorem set_nextR {α:Type} {vs:List α} {k L:Nat} (z y:α) (hv:vs.length=k) (hk:k<L):(vs++List.replicate (L - k) z).set k y=(vs++[y])++List.replicate (L - (k+1)) z:=by
 subst hv
 rw [List.set_append_right _ _ (Nat.le_refl _),Nat.sub_self,show L - vs.length=(L - (vs.length+1))+1 by omega,List.replicate_succ,List.set_cons_zero]
 simp
theorem rdAt_put9 {V:World} {p:Nat} {D:List Nat} {s:RS} (h:RdAt V p D s) {A j:Nat} {ss:List ByteArray} {y:Value} (hA:p≠A) (hg:V.heap[A]? =some (.cells (strV ss).toArray 9 (0,0))):RdAt (V.setCell ⟨A,j,none⟩ y) p D s:=by
 obtain ⟨ad,c,off,last,er,h1,h2,h6,h3,h4,h5⟩:=h
 refine ⟨ad,c,off,last,er,h1.ne hA _,h2,h6,?_,h4,h5⟩
 refine bytes_ne h3 ((Chg.refl (fun q _=>q=A) V).setCell _ (rfl:A=A)) (fun h0 z e i hm=> ?_)
 have h7:z.block=A:=hm
 obtain ⟨b,o,he,hc⟩:=h3.some (List.length_pos_iff.2 h0)
 rw [he] at e
 cases e
 have h8:=hc 0 (List.length_pos_iff.2 h0)
 simp only at h7
 subst h7
 rw [cell_of_row _ _ _ _ _ _ hg] at h8
 unfold strV at h8
 simp only [List.getElem?_toArray,List.getElem?_map] at h8
 cases hq:ss[o+0]? with
 | none=>rw [hq] at h8;cases h8
 | some u=>rw [hq] at h8;cases h8
theorem readSums_any (p:Nat) (D:List Nat) (s:RS) (hl:D.length≤1000000000) (m:Nat) (hm:m≤1000) (w:World) (hR:RdAt w p D s) (hbl:p<w.heap.size):
    Calls Tryz.prog 112 #[.pointer (some ⟨p,0,none⟩),.int .i64 (m:Int)] w fun e w'=> ∃(b L:Nat),e= .returned (.slice (some ⟨b,0,none⟩) L L)∧w.heap.size≤b∧L≤m∧(rdL m s).1.length=L∧w'.heap[b]? =some (.cells (strV ((rdL m s).1.map strB)).toArray 9 (0,0))∧RdAt w' p D (rdL m s).2∧Chg (RdM p) w w':=by
 have HC:=hid (rdCount_any p D s hl m (by omega) w hR)
 have HU:Hid ((rdU m s).1≤m):=hid (by
  cases s with
  | none=>exact Nat.zero_le _
  | some bs=>
    rw [rdU_some']
    unfold rdLim
    cases rdNum bs with
    | none=>exact Nat.zero_le _
    | some x=>
      obtain ⟨n,r⟩:=x
      by_cases h:n≤m
      ·simp only [if_pos h];exact h
      ·simp only [if_neg h];exact Nat.zero_le _)
 have HP:=hid hbl
 have HDL:=hid hl
 obtain ⟨⟨L,s1⟩,hX⟩:=ex_eq (rdU m s)
 rw [hX] at HC HU
 have HX:=hid hX
 have hL:L≤m:=HU.o
 have hL9:L≤1000:=Nat.le_trans hL hm
 have hmk:=fun W=>mk_strs L (by omega) W
 have HM:=hid hm
 clear hX hR hl hm hbl
 go_enter Tryz.func112,Tryz.ntmps112
 go_upto_region 2 with (first
  | (go_at_call 207
     (with_reducible refine HC.o.mono ?_)
     rintro e w2 ⟨rfl,hrd,h2⟩
     have HRD:=hid hrd
     have H2:=hid h2
     clear hrd h2))
 refine wp_over (fun V=>Hid (V.heap[w2.heap.size]? =some (.cells (strV (List.replicate L ByteArray.empty)).toArray 9 (0,0)))∧Hid (Below w2.heap.size w2 V)∧Hid (V.heap.size=w2.heap.size+1)) ⟨heap_alloc_new _ _,(Below.refl _ _).alloc (Nat.le_refl _) _,by show _=_;simp⟩ ?_
 rintro W ⟨HG,HB,HWS⟩
 obtain ⟨b,hb⟩:=ex_eq w2.heap.size
 have HW2:=hid hb
 have HBB:Hid (p<b∧w.heap.size≤b):=hid (by have:=H2.o.size;have:=HP.o;omega)
 rw [hb] at HG HB HWS ⊢
 clear hb
 have HX2:Hid ((rdL m s).1=(rdLs L s1).1∧(rdL m s).2=(rdLs L s1).2):=hid (by unfold rdL;rw [HX.o];exact ⟨rfl,rfl⟩)
 have HRW:Hid (RdAt W p D s1):=hid (HRD.o.later (HB.o.mono (Nat.le_of_eq HW2.o)))
 have HCW:Hid (Chg (RdM p) w W):=hid (H2.o.trans (Chg.of_below' HB.o (fun k i hk h=>absurd h (by have:=HW2.o;omega))))
 have HSM:=hid (fun s w h=>rdSum_any p D s HDL.o w h)
 clear hmk
 go_upto_region 3 with fail
 go_loopw [6,13] (fun _ z wr=> ∃k:Nat,k≤L∧z= .int .i64 (k:Int)∧Hid (RdAt wr p D (rdLs k s1).2)∧Hid (wr.heap[b]? =some (.cells (strV ((rdLs k s1).1.map strB++List.replicate (L - k) ByteArray.empty)).toArray 9 (0,0)))∧Hid (Chg (fun q _=>q=p∨w.heap.size≤q) w wr)∧Hid (b<wr.heap.size)) (fun _ z _=>L - (intOf z).toNat)
 case atStart=>exact ⟨0,by omega,rfl,HRW,HG,hid (HCW.o.mono (fun q i _ h=> .inl h)),hid (by have:=HWS.o;omega)⟩
 case round=>
  obtain ⟨k,hk,rfl,HR,HL,HC2,HBS⟩:=hrel
  by_cases hlt:k<L
  rotate_left
  ·have hki: ¬(k:Int)<(L:Int):=by omega
   have hke:k=L:=by omega
   subst hke
   have HL2:Hid (wr.heap[b]? =some (.cells (strV ((rdLs k s1).1.map strB)).toArray 9 (0,0))):=hid (by have h:=HL.o;rwa [Nat.sub_self,List.replicate_zero,List.append_nil] at h)
   go_wp2_with fail
   go_ret
   rw [HX2.o.1,HX2.o.2]
   exact ⟨b,k,rfl,HBB.o.2,HU.o,rdLs_length _ _,HL2.o,HR.o,HC2.o.mono (fun q i hq h=>h.resolve_right (by omega))⟩
  have hki:(k:Int)<(L:Int):=by omega
  obtain ⟨l0,hl0⟩:=ex_eq (rdLs k s1).1
  obtain ⟨sk,hsk⟩:=ex_eq (rdLs k s1).2
  have HLK:=hid hl0
  have HSK:=hid hsk
  rw [hl0] at HL
  rw [hsk] at HR
  have HK0:Hid (l0.length=k):=hid (by rw [← hl0,rdLs_length])
  clear hl0 hsk
  have HS1:=hid (HSM.o sk wr HR.o)
  obtain ⟨⟨x,s2⟩,hxs⟩:=ex_eq (rdS sk)
  have HXS:=hid hxs
  obtain ⟨z,hz⟩:=ex_eq (strB x)
  rw [hxs] at HS1
  simp only at HS1
  rw [hz] at HS1
  have HZ:=hid hz
  clear hxs hz
  go_wp2_with (first
   | (go_at_call 111
      (with_reducible refine HS1.o.mono ?_)
      rintro e w3 ⟨rfl,h3,h4⟩
      have H3:=hid h3
      have H4:=hid h4
      have HG3:Hid (w3.heap[b]? =some (.cells (strV (l0.map strB++List.replicate (L - k) ByteArray.empty)).toArray 9 (0,0))):=hid ((h4.other b HBS.o (fun i h=>by have h1:b=p:=h;have:=HBB.o;omega)).trans HL.o)
      have ck:=strV_cellR HG3.o (k:=k) (by rw [List.length_append,List.length_map,List.length_replicate,HK0.o];omega)
      have fk:w3.frozen? ⟨b,k,none⟩=false:=frozen_of_row _ _ _ _ _ HG3.o
      clear h3 h4))
  have HG4:Hid ((w3.setCell ⟨b,k,none⟩ (.string z)).heap[b]? =some (.cells (strV ((l0.map strB++[z])++List.replicate (L - (k+1)) ByteArray.empty)).toArray 9 (0,0))):=hid (by
   have h1:=heap_setCell_same w3 b k _ 9 (.string z) HG3.o
   rwa [strV_set,set_nextR ByteArray.empty z (by rw [List.length_map];exact HK0.o) hlt] at h1)
  have HR4:Hid (RdAt (w3.setCell ⟨b,k,none⟩ (.string z)) p D s2):=hid (rdAt_put9 H3.o (by have:=HBB.o;omega) HG3.o)
  have HC4:Hid (Chg (fun q _=>q=p∨w.heap.size≤q) w (w3.setCell ⟨b,k,none⟩ (.string z))):=hid ((HC2.o.trans (H4.o.mono (fun q i _ h=> .inl h))).setCell _ (.inr HBB.o.2))
  go_roundw
  case rel=>
   refine ⟨k+1,hlt,by go_num,hid ?_,hid ?_,HC4,hid ?_⟩
   ·rw [rdLs_snoc,HSK.o,HXS.o];exact HR4.o
   ·rw [rdLs_snoc,HLK.o,HSK.o,HXS.o,List.map_append,List.map_singleton]
    show _=some (Obj.cells (strV ((l0.map strB++[strB x])++_)).toArray 9 (0,0))
    rw [HZ.o];exact HG4.o
   ·rw [World.size_setCell];exact Nat.lt_of_lt_of_le HBS.o H4.o.size
  case measure=>simp [intOf];omega
end Go.Proofs.YtndlihclgdkpaaaGreatDoor
