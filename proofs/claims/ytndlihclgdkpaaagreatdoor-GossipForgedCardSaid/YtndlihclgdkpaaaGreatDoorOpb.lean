/- The opening of a slice of bytes that came in. -/
import Derived.Test.YtndlihclgdkpaaaGreatDoorOpu
set_option linter.unusedVariables false
set_option linter.unusedSimpArgs false
open Go.Lib (hid)
namespace Go.Proofs.YtndlihclgdkpaaaGreatDoor
open Go.ChangeShapes Go.WideShapes Go.ChangeAt Go.RowKit
theorem open_bytes {H:Type} {enc:TypeId × Value→H} {W:World} {a:Option Addr} {len cap fuel:Nat} {x:DataW H × List MemPlace}
    (hf:DataW.trod enc Tryz.prog W 0 (fun _=>true) true fuel 52 [.slice a len cap]=some x):
    ∃bs,len=bs.length∧BytesAt W a bs:=by
 rcases open_ints Tryz.underlying52 Tryz.underlying5 cellsU8 hf with ⟨hcs,_⟩ | ⟨ad,l,c,zs,hcs,_,hl,hm,hz,hx,hcell,hwz⟩
 ·simp at hcs
  obtain ⟨rfl,rfl,rfl⟩:=hcs
  exact ⟨[],rfl,⟨.inl rfl,by simp,Nat.zero_le _⟩⟩
 ·simp at hcs
  obtain ⟨rfl,rfl,rfl⟩:=hcs
  simp only [if_true] at hz
  have hlen:((zs.take len).map Int.toNat).length=len:=by rw [List.length_map,List.length_take];omega
  refine ⟨(zs.take len).map Int.toNat,hlen.symm,⟨?_,?_,by omega⟩⟩
  ·by_cases h0:len=0
   ·left
    exact List.eq_nil_of_length_eq_zero (by rw [hlen];exact h0)
   ·right
    obtain ⟨b,off,spot⟩:=ad
    have hspot:spot=none:=by simpa [Addr.add] using World.cell?_spot (hcell 0 (by omega))
    subst hspot
    refine ⟨b,off,rfl,fun i hi=> ?_⟩
    rw [hlen] at hi
    have hc:=hcell i (by omega)
    rw [add_none] at hc
    rw [hc]
    have hiz:i<zs.length:=by omega
    obtain ⟨k,hk,he⟩:=u8_of_wf (hwz (zs[i]) (List.getElem_mem hiz))
    rw [lD,lD,List.getElem?_map,List.getElem?_take_of_lt hi,lE hiz]
    simp only [Option.getD_some,Option.map_some]
    congr 2
    omega
  ·intro v hv
   rw [List.mem_map] at hv
   obtain ⟨z,hz',rfl⟩:=hv
   obtain ⟨k,hk,he⟩:=u8_of_wf (hwz z (List.mem_of_mem_take hz'))
   omega
end Go.Proofs.YtndlihclgdkpaaaGreatDoor
