/- The end of the law GossipForged: from the test of the head on. -/
import Derived.Deep.Cut
import Derived.Test.YtndlihclgdkpaaaGreatDoorGg
import Derived.Test.YtndlihclgdkpaaaGreatDoorFpl
import Derived.Test.YtndlihclgdkpaaaGreatDoorFst
import Derived.Test.YtndlihclgdkpaaaGreatDoorFsh
import Derived.Test.YtndlihclgdkpaaaGreatDoorWfs
import Derived.Test.YtndlihclgdkpaaaGreatDoorWpy
import Derived.Test.YtndlihclgdkpaaaGreatDoorGaw
set_option linter.unusedVariables false
set_option linter.unusedSimpArgs false
open Go.Lib (hid)
namespace Go.Proofs.YtndlihclgdkpaaaGreatDoor
open Go.RowKit
open Kit (Chg)
open Sha (v)
open Go.Proofs.YtndlihclgdkpaaaGreatDoor.One

def sndC:Code→Code
 | .seq _ b=>b
 | c=>c
def sndN:Nat→Code→Code
 | 0,c=>c
 | n+1,c=>sndN n (sndC c)
set_option maxRecDepth 100000 in
set_option maxHeartbeats 8000000 in
theorem forged_rest (b t N P M pn bp cp:Nat) (hd hq:Int) (hs:ByteArray) (hi:Int) (a1:Option Addr) (m1 c1:Nat) (a2:Option Addr) (m2 c2:Nat) (hps hqs:List ByteArray) (hm1:hps.length=m1) (hm2:hqs.length=m2) (hb1:m1<9223372036854775808) (hb2:m2<9223372036854775808)
    (xs:List EV) (a7:Option Addr) (nx7 c7:Nat) (hnx:xs.length=nx7) (hx4:nx7≤4096) (pks:List ByteArray) (G3:Nat→Nat) (ls1:List Lin) (V30:World)
    (hst:StoreAt V30 G3 164 pn (b:Int) (t:Int) ls1) (how:Own V30 G3 N) (hN3:3≤N) (hgd:GoodS (b:Int) (t:Int) ls1) (hl3:ls1.length=3) (hpb: ∀(i:Nat) (h:i<ls1.length),ls1[i].pub=pks.getD i ByteArray.empty) (hfk: ∀l ∈ ls1,l.fork=none)
    (hPW:P≤V30.heap.size) (hG0: ∀k,k<P→G3 k=0) (hc30:(V30.cell? ⟨M+2,0,none⟩=some (.int .i64 hd)∧V30.cell? ⟨M+2,1,none⟩=some (.int .i64 hq)∧V30.cell? ⟨M+2,2,none⟩=some (.string hs)∧V30.cell? ⟨M+2,3,none⟩=some (.int .i64 hi)∧V30.cell? ⟨M+2,4,none⟩=some (.slice a1 m1 c1)∧V30.cell? ⟨M+2,5,none⟩=some (.slice a2 m2 c2))∧(V30.cell? ⟨M,0,none⟩=some (.int .i64 (b:Int))∧V30.cell? ⟨M,1,none⟩=some (.int .i64 (t:Int)))∧V30.cell? ⟨P,2,none⟩=some (.slice (some ⟨bp,0,none⟩) 3 cp)) (hpub: ∀i,i<3→V30.cell? ⟨bp,i,none⟩=some (.string (pks.getD i ByteArray.empty)))
    (hP:StrsAt V30 a1 hps) (hQ:StrsAt V30 a2 hqs) (hLd:Laid V30) (hxo: ∀x ∈ xs,x.ok V30 G3∧x.e.body.length≤1000000000) (hyo:HV.ok V30 G3 ⟨⟨hd,hq,hs,hi,hps,hqs⟩,a1,c1,a2,c2⟩) (hxe:EVsAt V30 a7 xs)
    (R:World→Prop) (hR: ∀w',Below P V30 w'→R w') (y0 y1 y2 y3 y4 y5 y7 y8 y9 y10 y12 y14 y15 y17 y19 y20 y21 y22 y23 y24 y25 y26 y27 y28 y29 y30 y31 y32 y33 y34 y35 y36 y37 y38 y39 y40 y41 y42 y43 y44 y45 y46 y47 y48 y49 y50 y51 y52 y53 y54 y55 y56 y57 y58 y59 y60 y61 y62 y63 y64 y65 y66 y67 y68 y69 y70 y71 y72 y73 y74 y75 y76 y77 y78 y79 y80 y81 y82 y83 y84 y85 y86 y87 y88 y89 y90 y91 y92 y93 y94 y95 y96 y97 y98 y99 y100 y101 y102 y103 y104 y105 y106 y107 y108 y109 y110 y111 y112 y113 y114 y115 y116 y117 y118 y119 y120 y121 y122 y123 y124 y125 y126 y127 y128 y129 y130 y131 y132 y133 y134 y135 y136 y137 y138 y139 y140 y141 y142 y143 y144 y145 y146 y147 y148 y149 y150 y151 y152 y153 y154 y155 y156 y157 y158 y159 y160 y161 y162 y163 y164 y165 y166 y167 y168 y169 y170 y171 y172 y173 y174 y175 y176 y177 y178 y179 y180 y181 y182 y183 y184 y185 y186 y187 y188 y189 y190 y191 y192 y193 y194 y195 y196 y197 y198 y199 y200 y201 y202 y203 y204 y205 y206 y207 y208 y209 y210 y211 y212 y213 y214 y215 y216 y217 y218 y219 y220 y221 y222 y223 y224 y225 y226 y227 y228 y229 y230 y231 y232 y233 y234 y235 y236 y237 y238 y239 y240 y241 y242 y243 y244 y245 y246 y247 y248 y249 y250 y251 y252 y253 y254 y255 y256 y257 y258 y259 y260 y261 y262 y263 y264 y265 y266 y267 y268 y269 y270 y271 y272 y273 y274:Value):
    Code.wp Tryz.prog (sndN 10 ((Tryz.f12.body).getD .skip)) (bodyPost Tryz.prog Tryz.f12 fun e w'=>e= .returned (.bool true)∧R w') ⟨#[y0,y1,y2,y3,y4,y5,.pointer (some ⟨M,0,none⟩),y7,y8,y9,y10,.pointer (some ⟨M+1+1,0,none⟩),y12,.pointer (some ⟨P,0,none⟩),y14,y15,.pointer (some ⟨pn,0,none⟩),y17,.slice a7 nx7 c7,y19,y20,y21,y22,y23,y24,y25,y26,y27,y28,y29,y30,y31,y32,y33,y34,y35,y36,y37,y38,y39,y40,y41,y42,y43,y44,y45,y46,y47,y48,y49,y50,y51,y52,y53,y54,y55,y56,y57,y58,y59,y60,y61,y62,y63,y64,y65,y66,y67,y68,y69,y70,y71,y72,y73,y74,y75,y76,y77,y78,y79,y80,y81,y82,y83,y84,y85,y86,y87,y88,y89,y90,y91,y92,y93,y94,y95,y96,y97,y98,y99,y100,y101,y102,y103,y104,y105,y106,y107,y108,y109,y110,y111,y112,y113,y114,y115,y116,y117,y118,y119,y120,y121,y122,y123,y124,y125,y126,y127,y128,y129,y130,y131,y132,y133,y134,y135,y136,y137,y138,y139,y140,y141,y142,y143,y144,y145,y146,y147,y148,y149,y150,y151,y152,y153,y154,y155,y156,y157,y158,y159,y160,y161,y162,y163,y164,y165,y166,y167,y168,y169,y170,y171,y172,y173,y174,y175,y176,y177,y178,y179,y180,y181,y182,y183,y184,y185,y186,y187,y188,y189,y190,y191,y192,y193,y194,y195,y196,y197,y198,y199,y200,y201,y202,y203,y204,y205,y206,y207,y208,y209,y210,y211,y212,y213,y214,y215,y216,y217,y218,y219,y220,y221,y222,y223,y224,y225,y226,y227,y228,y229,y230,y231,y232,y233,y234,y235,y236,y237,y238,y239,y240,y241,y242,y243,y244,y245,y246,y247,y248,y249,y250,y251,y252,y253,y254,y255,y256,y257,y258,y259,y260,y261,y262,y263,y264,y265,y266,y267,y268,y269,y270,y271,y272,y273,y274],[]⟩ V30:=by
 have HHM:=hid (And.intro hm1 hm2)
 have HHB:=hid (And.intro hb1 hb2)
 have HNX:=hid hnx
 have HXL:=hid hx4
 have HST3:=hid hst
 have HOW3:=hid how
 have HN3:=hid hN3
 have HGD3:=hid hgd
 have HL31:=hid hl3
 have HPB1:=hid hpb
 have HFK1:=hid hfk
 have HPW:=hid hPW
 have HG0:=hid hG0
 have HPUB:=hid hpub
 have HHP:=hid (And.intro hP hQ)
 have HLD30:=hid hLd
 have HXO:=hid hxo
 have HYO:=hid hyo
 have HXE30:=hid hxe
 have HRR:=hid hR
 have HS30:Hid (∀V,Below V30.heap.size V30 V→(V.cell? ⟨M+2,0,none⟩=some (.int .i64 hd)∧V.cell? ⟨M+2,1,none⟩=some (.int .i64 hq)∧V.cell? ⟨M+2,2,none⟩=some (.string hs)∧V.cell? ⟨M+2,3,none⟩=some (.int .i64 hi)∧V.cell? ⟨M+2,4,none⟩=some (.slice a1 m1 c1)∧V.cell? ⟨M+2,5,none⟩=some (.slice a2 m2 c2))∧(V.cell? ⟨M,0,none⟩=some (.int .i64 (b:Int))∧V.cell? ⟨M,1,none⟩=some (.int .i64 (t:Int)))∧V.cell? ⟨P,2,none⟩=some (.slice (some ⟨bp,0,none⟩) 3 cp)):=hid (fun V h=>by
  obtain ⟨⟨g0,g1,g2,g3,g4,g5⟩,⟨g6,g7⟩,g8⟩:=hc30
  have f: ∀{ad:Addr} {x:Value},V30.cell? ad=some x→V.cell? ad=some x:=fun hx=>(h.cell (World.block_lt_of_cell? _ _ hx)).trans hx
  exact ⟨⟨f g0,f g1,f g2,f g3,f g4,f g5⟩,⟨f g6,f g7⟩,f g8⟩)
 clear hm1 hm2 hb1 hb2 hnx hx4 hst how hN3 hgd hl3 hpb hfk hPW hG0 hpub hP hQ hLd hxo hyo hxe hR hc30
 dsimp only [sndN,sndC,Tryz.f12,Option.getD]
 go_upto_region 30 with fail
 have HVC:Hid (∀V,Below V30.heap.size V30 V→Calls Tryz.prog 65 #[.pointer (some ⟨pn,0,none⟩)] V fun e w'=> ∃bl:Nat,e= .returned (.slice (some ⟨bl,0,none⟩) 3 3)∧(∀j,j<3→w'.cell? ⟨bl,j,none⟩=some (.int .i64 ((sdAt ls1 j:Nat):Int)))∧V.heap.size≤bl∧bl<w'.heap.size∧Below V.heap.size V w'):=hid (fun V h=>store_vector (HST3.o.later h) HL31.o)
 go_cut [215] from 33 (fun c wx=>(c= .bool true∨c= .bool false∧Hid (∀(i:Nat) (h:i<ls1.length),hd=(i:Int)→ ¬SignedH (b:Int) (t:Int) (nb ls1[i].pub) ⟨hd,hq,hs,hi,hps,hqs⟩))∧Hid (Below V30.heap.size V30 wx))
 case first=>
  have HD30:Hid (Below V30.heap.size V30 V30.drew):=hid (Below.refl _ _).drew
  obtain ⟨VZ,hVZ⟩:=ex_eq V30.drew
  rw [hVZ] at HD30
  have HDZ:=HD30
  by_cases hd0:hd<0
  ·have hd0i: ¬(0:Int)≤hd:=by omega
   have HNS:Hid (∀(i:Nat) (h:i<ls1.length),hd=(i:Int)→ ¬SignedH (b:Int) (t:Int) (nb ls1[i].pub) ⟨hd,hq,hs,hi,hps,hqs⟩):=hid (fun i h e=>by omega)
   refine Kit.wp_region_hplan (fun V=>(V.cell? ⟨M+2,0,none⟩=some (.int .i64 hd)∧V.cell? ⟨M+2,1,none⟩=some (.int .i64 hq)∧V.cell? ⟨M+2,2,none⟩=some (.string hs)∧V.cell? ⟨M+2,3,none⟩=some (.int .i64 hi)∧V.cell? ⟨M+2,4,none⟩=some (.slice a1 m1 c1)∧V.cell? ⟨M+2,5,none⟩=some (.slice a2 m2 c2))∧(V.cell? ⟨M,0,none⟩=some (.int .i64 (b:Int))∧V.cell? ⟨M,1,none⟩=some (.int .i64 (t:Int)))∧V.cell? ⟨P,2,none⟩=some (.slice (some ⟨bp,0,none⟩) 3 cp)) [(true,0),(true,1),(true,2),(true,3),(true,4),(true,5),(true,6),(true,7),(true,8),(true,9),(true,10),(true,11),(true,12),(true,13),(true,14),(true,15),(true,16),(true,17),(true,18),(false,19),(true,20)] (by kernel_rfl) (by kernel_rfl) (by kernel_rfl) (by kernel_rfl) (by rw [hVZ];exact HS30.o _ HDZ.o) ?_
   rw [hVZ]
   clear hVZ
   iterate 19 (refine Kit.hhd (h:= ?_))
   refine Kit.hsk (h:=?_)
   iterate 1 (refine Kit.hhd (h:= ?_))
   refine Kit.hdn (h:=?_)
   (try go_wp2_with fail)
   go_meet
   case rel=>exact ⟨.inr ⟨by first | rfl | simp,HNS⟩,HDZ⟩
  by_cases hd3:3≤hd
  ·have hd0i:(0:Int)≤hd:=by omega
   have hd3i: ¬hd<3:=by omega
   have HNS:Hid (∀(i:Nat) (h:i<ls1.length),hd=(i:Int)→ ¬SignedH (b:Int) (t:Int) (nb ls1[i].pub) ⟨hd,hq,hs,hi,hps,hqs⟩):=hid (fun i h e=>by have:=HL31.o;omega)
   refine Kit.wp_region_hplan (fun V=>(V.cell? ⟨M+2,0,none⟩=some (.int .i64 hd)∧V.cell? ⟨M+2,1,none⟩=some (.int .i64 hq)∧V.cell? ⟨M+2,2,none⟩=some (.string hs)∧V.cell? ⟨M+2,3,none⟩=some (.int .i64 hi)∧V.cell? ⟨M+2,4,none⟩=some (.slice a1 m1 c1)∧V.cell? ⟨M+2,5,none⟩=some (.slice a2 m2 c2))∧(V.cell? ⟨M,0,none⟩=some (.int .i64 (b:Int))∧V.cell? ⟨M,1,none⟩=some (.int .i64 (t:Int)))∧V.cell? ⟨P,2,none⟩=some (.slice (some ⟨bp,0,none⟩) 3 cp)) [(true,0),(true,1),(true,2),(true,3),(true,4),(true,5),(true,6),(true,7),(true,8),(true,9),(true,10),(true,11),(true,12),(true,13),(true,14),(true,15),(true,16),(true,17),(true,18),(false,19),(true,20)] (by kernel_rfl) (by kernel_rfl) (by kernel_rfl) (by kernel_rfl) (by rw [hVZ];exact HS30.o _ HDZ.o) ?_
   rw [hVZ]
   clear hVZ
   iterate 19 (refine Kit.hhd (h:= ?_))
   refine Kit.hsk (h:=?_)
   iterate 1 (refine Kit.hhd (h:= ?_))
   refine Kit.hdn (h:=?_)
   (try go_wp2_with fail)
   go_meet
   case rel=>exact ⟨.inr ⟨by first | rfl | simp,HNS⟩,HDZ⟩
  obtain ⟨dh,hdh⟩: ∃i:Nat,hd=(i:Int):=⟨hd.toNat,by omega⟩
  subst hdh
  have hd0i:(0:Int)≤(dh:Int):=by omega
  have hd3i:(dh:Int)<3:=by omega
  have HDH:Hid (dh<3):=hid (by omega)
  clear hd0 hd3
  obtain ⟨pk,hpk⟩:=ex_eq (pks.getD dh ByteArray.empty)
  have HPK:=hid hpk
  clear hpk
  have HS3V:Hid (∀V,Below V30.heap.size V30 V→(V.cell? ⟨M+2,0,none⟩=some (.int .i64 (dh:Int))∧V.cell? ⟨M+2,1,none⟩=some (.int .i64 hq)∧V.cell? ⟨M+2,2,none⟩=some (.string hs)∧V.cell? ⟨M+2,3,none⟩=some (.int .i64 hi)∧V.cell? ⟨M+2,4,none⟩=some (.slice a1 m1 c1)∧V.cell? ⟨M+2,5,none⟩=some (.slice a2 m2 c2))∧(V.cell? ⟨M,0,none⟩=some (.int .i64 (b:Int))∧V.cell? ⟨M,1,none⟩=some (.int .i64 (t:Int)))∧V.cell? ⟨P,2,none⟩=some (.slice (some ⟨bp,0,none⟩) 3 cp)∧V.cell? ⟨bp,dh,none⟩=some (.string pk)):=hid (fun V h=>by
   obtain ⟨g1,g2,g3⟩:=HS30.o V h
   have g5:=HPUB.o dh HDH.o
   rw [HPK.o] at g5
   exact ⟨g1,g2,g3,(h.cell (World.block_lt_of_cell? _ _ g5)).trans g5⟩)
  have HVF:Hid (∀V,Below V30.heap.size V30 V→Calls Tryz.prog 64 #[.string pk,.agg #[.int .i64 (b:Int),.int .i64 (t:Int)],.agg #[.int .i64 (dh:Int),.int .i64 hq,.string hs,.int .i64 hi,.slice a1 m1 c1,.slice a2 m2 c2]] V fun e w'=>e= .returned (.bool (decide (SignedH (b:Int) (t:Int) (nb pk) ⟨(dh:Int),hq,hs,hi,hps,hqs⟩)))∧Below V.heap.size V w'):=hid (fun V h=>by
   have h1:=verifyH_any pk (b:Int) (t:Int) ⟨⟨(dh:Int),hq,hs,hi,hps,hqs⟩,a1,c1,a2,c2⟩ (by show hps.length<_;rw [HHM.o.1];exact HHB.o.1) (by show hqs.length<_;rw [HHM.o.2];exact HHB.o.2) V (HHP.o.1.later h) (HHP.o.2.later h) (HLD30.o.later h (Nat.le_refl _))
   simp only at h1
   rw [HHM.o.1,HHM.o.2] at h1
   exact h1)
  by_cases hsg:SignedH (b:Int) (t:Int) (nb pk) ⟨(dh:Int),hq,hs,hi,hps,hqs⟩
  ·rw [decide_eq_true hsg] at HVF
   clear hsg
   refine Kit.wp_region_hplan (fun V=>(V.cell? ⟨M+2,0,none⟩=some (.int .i64 (dh:Int))∧V.cell? ⟨M+2,1,none⟩=some (.int .i64 hq)∧V.cell? ⟨M+2,2,none⟩=some (.string hs)∧V.cell? ⟨M+2,3,none⟩=some (.int .i64 hi)∧V.cell? ⟨M+2,4,none⟩=some (.slice a1 m1 c1)∧V.cell? ⟨M+2,5,none⟩=some (.slice a2 m2 c2))∧(V.cell? ⟨M,0,none⟩=some (.int .i64 (b:Int))∧V.cell? ⟨M,1,none⟩=some (.int .i64 (t:Int)))∧V.cell? ⟨P,2,none⟩=some (.slice (some ⟨bp,0,none⟩) 3 cp)∧V.cell? ⟨bp,dh,none⟩=some (.string pk)) [(true,0),(true,1),(true,2),(true,3),(true,4),(true,5),(true,6),(true,7),(true,8),(true,9),(true,10),(true,11),(true,12),(true,13),(true,14),(true,15),(true,16),(true,17),(true,18),(false,19),(true,20)] (by kernel_rfl) (by kernel_rfl) (by kernel_rfl) (by kernel_rfl) (by rw [hVZ];exact HS3V.o _ HDZ.o) ?_
   rw [hVZ]
   clear hVZ
   iterate 19 (refine Kit.hhd (h:= ?_))
   refine Kit.hplan_op (by rfl) (by rfl) fun K hK=> ?_
   go_simp
   go_at_call 64
   with_reducible refine (HVF.o _ HDZ.o).mono ?_
   rintro e w31 ⟨rfl,h31⟩
   have H31:Hid (Below V30.heap.size V30 w31):=hid (HDZ.o.trans (h31.mono HDZ.o.size))
   clear h31
   refine hK _ _ (HS3V.o _ H31.o) ?_
   clear hK K
   iterate 1 (refine Kit.hhd (h:= ?_))
   refine Kit.hdn (h:=?_)
   (try go_wp2_with fail)
   go_meet
   case rel=>exact ⟨.inl (by first | rfl | simp),H31⟩
  rw [decide_eq_false hsg] at HVF
  have HNS:Hid (∀(i:Nat) (h:i<ls1.length),(dh:Int)=(i:Int)→ ¬SignedH (b:Int) (t:Int) (nb ls1[i].pub) ⟨(dh:Int),hq,hs,hi,hps,hqs⟩):=hid (fun i h e=>by
   have e2:dh=i:=by omega
   subst e2
   rw [HPB1.o dh h,HPK.o]
   exact hsg)
  clear hsg
  refine Kit.wp_region_hplan (fun V=>(V.cell? ⟨M+2,0,none⟩=some (.int .i64 (dh:Int))∧V.cell? ⟨M+2,1,none⟩=some (.int .i64 hq)∧V.cell? ⟨M+2,2,none⟩=some (.string hs)∧V.cell? ⟨M+2,3,none⟩=some (.int .i64 hi)∧V.cell? ⟨M+2,4,none⟩=some (.slice a1 m1 c1)∧V.cell? ⟨M+2,5,none⟩=some (.slice a2 m2 c2))∧(V.cell? ⟨M,0,none⟩=some (.int .i64 (b:Int))∧V.cell? ⟨M,1,none⟩=some (.int .i64 (t:Int)))∧V.cell? ⟨P,2,none⟩=some (.slice (some ⟨bp,0,none⟩) 3 cp)∧V.cell? ⟨bp,dh,none⟩=some (.string pk)) [(true,0),(true,1),(true,2),(true,3),(true,4),(true,5),(true,6),(true,7),(true,8),(true,9),(true,10),(true,11),(true,12),(true,13),(true,14),(true,15),(true,16),(true,17),(true,18),(false,19),(true,20)] (by kernel_rfl) (by kernel_rfl) (by kernel_rfl) (by kernel_rfl) (by rw [hVZ];exact HS3V.o _ HDZ.o) ?_
  rw [hVZ]
  clear hVZ
  iterate 19 (refine Kit.hhd (h:= ?_))
  refine Kit.hplan_op (by rfl) (by rfl) fun K hK=> ?_
  go_simp
  go_at_call 64
  with_reducible refine (HVF.o _ HDZ.o).mono ?_
  rintro e w31 ⟨rfl,h31⟩
  have H31:Hid (Below V30.heap.size V30 w31):=hid (HDZ.o.trans (h31.mono HDZ.o.size))
  clear h31
  refine hK _ _ (HS3V.o _ H31.o) ?_
  clear hK K
  iterate 1 (refine Kit.hhd (h:= ?_))
  refine Kit.hdn (h:=?_)
  (try go_wp2_with fail)
  go_meet
  case rel=>exact ⟨.inr ⟨by first | rfl | simp,HNS⟩,H31⟩
 case rest=>
  obtain ⟨hc3,H31⟩:=hcut
  rename World=>w31
  rcases hc3 with rfl | ⟨rfl,HNS⟩
  ·go_wp2_with fail
   go_ret
   exact ⟨by first | rfl | simp,HRR.o _ (H31.o.mono HPW.o)⟩
  have HMU:Hid (∀(V:World) (X cc:Nat),Below V30.heap.size V30 V→V.heap[X]? =some (.cells #[.int .i64 hd,.int .i64 hq,.string hs,.int .i64 hi,.slice a1 m1 c1,.slice a2 m2 c2] 94 (0,0))→Calls Tryz.prog 61 #[.pointer (some ⟨pn,0,none⟩),.slice a7 nx7 c7,.slice (some ⟨X,0,none⟩) 1 cc] V fun e w'=> ∃G':Nat→Nat,e= .returned (.tuple #[.int .i64 0,.int .i64 0])∧StoreAt w' G' 164 pn (b:Int) (t:Int) ls1∧Own w' G' N∧Step G3 G' (MT 164) V w'):=hid (fun V X cc h hX=>merge_unsigned xs ⟨⟨hd,hq,hs,hi,hps,hqs⟩,a1,c1,a2,c2⟩ a7 c7 nx7 (some ⟨X,0,none⟩) cc HNX.o HXL.o (by rw [HL31.o];decide) (by decide) HN3.o HGD3.o HNS.o V (HXE30.o.later h) (.inr ⟨X,0,rfl,fun j u hu=>by
   rw [Nat.zero_add,cell_of_row _ _ _ _ _ _ hX,← hu]
   have e:hvs [⟨⟨hd,hq,hs,hi,hps,hqs⟩,a1,c1,a2,c2⟩]=[.int .i64 hd,.int .i64 hq,.string hs,.int .i64 hi,.slice a1 m1 c1,.slice a2 m2 c2]:=by
    unfold hvs sixes sixes
    simp only [HV.cells,List.append_nil]
    rw [HHM.o.1,HHM.o.2]
   rw [e]
   simp⟩) (fun x hx=>⟨(HXO.o x hx).1.step (Step.of_below h G3 (fun _=>False)) (fun h=>h),(HXO.o x hx).2⟩) ⟨HYO.o.step (Step.of_below h G3 (fun _=>False)) (fun h=>h),by show hps.length<_;rw [HHM.o.1];exact HHB.o.1,by show hqs.length<_;rw [HHM.o.2];exact HHB.o.2⟩ (HST3.o.later h) (HOW3.o.later h.size) (HLD30.o.later h (Nat.le_refl _)))
  go_upto_region 33 with (first
   | (go_at_call 65
      (with_reducible refine (HVC.o _ H31.o).mono ?_)
      rintro e w32 ⟨bv,rfl,hcv,hbv,hsv2,h32⟩
      have HCV:=hid hcv
      have HBV:Hid (V30.heap.size≤bv∧bv<w32.heap.size):=hid ⟨Nat.le_trans H31.o.size hbv,hsv2⟩
      have H32:Hid (Below V30.heap.size V30 w32):=hid (H31.o.trans (h32.mono H31.o.size))
      clear hcv hbv hsv2 h32))
  obtain ⟨⟨k0,k1,k2,k3,k4,k5⟩,_⟩:=HS30.o _ H32.o
  go_upto_region 34 with (first
   | (go_at_call 61
      (with_reducible refine (HMU.o _ _ _ (H32.o.alloc (Nat.le_trans (Nat.le_refl _) H32.o.size) _) (heap_alloc_new _ _)).mono ?_)
      rintro e w34 ⟨G4,rfl,hs4,ho4,hp4⟩
      have HS4:=hid hs4
      have HP4:=hid (hp4)
      have H34:Hid (Step G3 G4 (MT 164) V30 w34):=hid ((Step.of_below (H32.o.alloc (Nat.le_trans (Nat.le_refl _) H32.o.size) _) G3 _).trans hp4)
      clear hs4 ho4 hp4 k0 k1 k2 k3 k4 k5))
  have HVC4:=hid (store_vector HS4.o HL31.o)
  have HG3:Hid (∀k,V30.heap.size≤k→G3 k=0):=hid (fun k hk=>HOW3.o.hi k hk)
  have HCV4:Hid (∀j,j<3→w34.cell? ⟨bv,j,none⟩=some (.int .i64 ((sdAt ls1 j:Nat):Int))):=hid (fun j hj=>by
   have h1:=HCV.o j hj
   have h2:(w32.alloc (.cells #[.int .i64 hd,.int .i64 hq,.string hs,.int .i64 hi,.slice a1 m1 c1,.slice a2 m2 c2] 94)).cell? ⟨bv,j,none⟩=some (.int .i64 ((sdAt ls1 j:Nat):Int)):=((Below.refl _ w32).alloc (Nat.le_refl _) _).cell (World.block_lt_of_cell? _ _ h1) |>.trans h1
   exact HP4.o.chg.cell h2 (fun hm=>by
    have h3:=HG3.o bv HBV.o.1
    rw [h3] at hm
    have:=hm.1
    omega))
  go_upto_region 37 with (first
   | (go_at_call 65
      (with_reducible refine HVC4.o.mono ?_)
      rintro e w36 ⟨bv2,rfl,hcv,hbv,hsv2,h36⟩
      have HCV2:=hid hcv
      have H36:=hid h36
      clear hcv hbv hsv2 h36))
  obtain ⟨v0,hv0⟩:=ex_eq (sdAt ls1 0)
  obtain ⟨v1,hv1⟩:=ex_eq (sdAt ls1 1)
  obtain ⟨v2,hv2⟩:=ex_eq (sdAt ls1 2)
  have HS37:Hid (∀V,Below w36.heap.size w36 V→V.cell? ⟨bv,0,none⟩=some (.int .i64 (v0:Int))∧V.cell? ⟨bv,1,none⟩=some (.int .i64 (v1:Int))∧V.cell? ⟨bv,2,none⟩=some (.int .i64 (v2:Int))∧V.cell? ⟨bv2,0,none⟩=some (.int .i64 (v0:Int))∧V.cell? ⟨bv2,1,none⟩=some (.int .i64 (v1:Int))∧V.cell? ⟨bv2,2,none⟩=some (.int .i64 (v2:Int))):=hid (fun V h=>by
   have f: ∀j,j<3→V.cell? ⟨bv,j,none⟩=some (.int .i64 ((sdAt ls1 j:Nat):Int)):=fun j hj=>by
    have h1:=HCV4.o j hj
    have h2:=(H36.o.cell (World.block_lt_of_cell? _ _ h1)).trans h1
    exact (h.cell (World.block_lt_of_cell? _ _ h2)).trans h2
   have f2: ∀j,j<3→V.cell? ⟨bv2,j,none⟩=some (.int .i64 ((sdAt ls1 j:Nat):Int)):=fun j hj=>by
    have h1:=HCV2.o j hj
    exact (h.cell (World.block_lt_of_cell? _ _ h1)).trans h1
   have a0:=f 0 (by decide)
   have a1':=f 1 (by decide)
   have a2':=f 2 (by decide)
   have b0:=f2 0 (by decide)
   have b1:=f2 1 (by decide)
   have b2:=f2 2 (by decide)
   rw [hv0] at a0 b0
   rw [hv1] at a1' b1
   rw [hv2] at a2' b2
   exact ⟨a0,a1',a2',b0,b1,b2⟩)
  clear hv0 hv1 hv2
  have HFKC:Hid (∀V,Below w36.heap.size w36 V→Calls Tryz.prog 66 #[.pointer (some ⟨pn,0,none⟩)] V fun e w'=> ∃(a:Option Addr) (c:Nat),e= .returned (.slice a 0 c)∧Below V.heap.size V w'):=hid (fun V h=>store_nofork (HS4.o.later (H36.o.trans (h.mono H36.o.size))) HL31.o HFK1.o)
  have HD36:Hid (Below w36.heap.size w36 w36.drew):=hid (Below.refl _ _).drew
  obtain ⟨VY,hVY⟩:=ex_eq w36.drew
  rw [hVY] at HD36
  refine Kit.wp_region_gplan (fun V=>V.cell? ⟨bv,0,none⟩=some (.int .i64 (v0:Int))∧V.cell? ⟨bv,1,none⟩=some (.int .i64 (v1:Int))∧V.cell? ⟨bv,2,none⟩=some (.int .i64 (v2:Int))∧V.cell? ⟨bv2,0,none⟩=some (.int .i64 (v0:Int))∧V.cell? ⟨bv2,1,none⟩=some (.int .i64 (v1:Int))∧V.cell? ⟨bv2,2,none⟩=some (.int .i64 (v2:Int))) [(true,0),(true,1),(true,2),(true,3),(true,4),(true,5),(true,6),(true,7),(true,8),(true,9),(true,10),(true,11),(true,12),(true,13),(true,14),(true,15),(true,16),(true,17),(true,18),(true,19),(true,20),(true,21),(true,22),(true,23),(true,24),(true,25),(true,26),(false,27),(true,28),(true,29),(true,30),(true,31)] (by kernel_rfl) (by kernel_rfl) (by kernel_rfl) (by kernel_rfl) (by rw [hVY];exact HS37.o _ HD36.o) ?_
  rw [hVY]
  clear hVY
  iterate 27 (refine Kit.ghd (h:= ?_))
  refine Kit.gplan_op (by rfl) (by rfl) fun K hK=> ?_
  go_simp
  go_at_call 66
  with_reducible refine (HFKC.o _ HD36.o).mono ?_
  rintro e w38 ⟨af,cf,rfl,h38⟩
  have H38:Hid (Below w36.heap.size w36 w38):=hid (HD36.o.trans (h38.mono HD36.o.size))
  clear h38
  refine hK _ _ (HS37.o _ H38.o) ?_
  clear hK K
  iterate 4 (refine Kit.ghd (h:= ?_))
  refine Kit.gdn (h:=?_)
  go_wp2_with fail
  go_ret
  have hfin:Below P V30 w38:=(H34.o.chg.below HPW.o (fun k i hk hm=>by
   rw [HG0.o k hk] at hm
   have:=hm.1
   omega)).trans ((H36.o.trans (H38.o.mono H36.o.size)).mono (by have:=H34.o.chg.size;have:=HPW.o;omega))
  exact ⟨by first | rfl | simp,HRR.o _ hfin⟩

end Go.Proofs.YtndlihclgdkpaaaGreatDoor
