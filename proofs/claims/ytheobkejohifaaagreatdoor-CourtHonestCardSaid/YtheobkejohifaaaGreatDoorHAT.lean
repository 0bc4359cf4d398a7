/- sortesref01.Parse at any text and what follows. -/
import Derived.Test.YtheobkejohifaaaGreatDoorHAS
import Derived.Test.YtheobkejohifaaaGreatDoorHAJ
import Derived.Test.YtheobkejohifaaaGreatDoorHAI
namespace Go.Proofs.YtheobkejohifaaaGreatDoor
open Go.RowKit
set_option maxRecDepth 100000
theorem pfo {u:Nat} (h:u≤9223372036854775808):(be u).length≤8:=paE 8 u (Nat.lt_of_le_of_lt h (by decide))
theorem pnd {n:Int} (h:n<0):Lib.itoa n=[45] ++ Lib.decDigits n.natAbs:=by
 unfold Lib.itoa
 rw [if_pos h]
 rfl
theorem pne (u:Nat):Lib.itoa (u:Int)=Lib.decDigits u:=by
 unfold Lib.itoa
 rw [if_neg (by omega),Int.toNat_natCast]
theorem pko (u:Nat) (w:World) (a:ByteArray) (ha:bs a=be u) (h:u≤9223372036854775808):Calls Tryz.prog 27 #[.string a] w (MkS (Lib.decDigits u) w) :=
 pj5 a u w (by rw [ha,paK]) (by rw [paq ha];exact Nat.le_trans (pfo h) (by omega)) (Nat.le_trans (pc0 h) (by omega))
set_option maxHeartbeats 1000000 in
theorem paL (n:Int) (w:World) (hn:pab n):Calls Tryz.prog 10 #[.int .i64 n] w (MkS (Lib.itoa n) w):=by
 have hn1:=hn.1
 have hn2:=hn.2
 by_cases h0:0≤n
 · obtain ⟨u,rfl⟩:=Int.eq_ofNat_of_zero_le h0
   go_enter Tryz.func10,Tryz.ntmps10
   go_wp2_with fail
   refine (of_int u w (by omega)).mono ?_
   rintro e w1 ⟨a,HA,rfl,hu1⟩
   go_wp2_with fail
   refine (pko u w1 a HA.out (by omega)).mono ?_
   rintro e w2 ⟨y,HY,hy,rfl,hu2⟩
   go_wp2_with fail
   go_ret
   rw [pne]
   exact ⟨y,HY.out,hy,rfl,hu1.trans hu2⟩
 · obtain ⟨m,hm⟩:∃ m:Nat,(m:Int)=-(n+1):=⟨(-(n+1)).toNat,by omega⟩
   have hml:m<9223372036854775808:=by omega
   have hnm:n.natAbs=m+1:=by omega
   have HN:=Lib.hid hnm
   have hlt:n<0:=by omega
   have w1:IntKind.i64.wrap (n+1)=n+1:=pap (by omega) (by omega)
   have w2:IntKind.i64.wrap (-(n+1))=(m:Int):=by rw [pap (by omega) (by omega)];omega
   have b1:n+1≤9223372036854775807:=by omega
   clear hnm
   go_enter Tryz.func10,Tryz.ntmps10
   go_wp2_with fail
   first | rw [← hm] | skip
   refine (of_int m w hml).mono ?_
   rintro e w3 ⟨a,HA,rfl,hu1⟩
   go_wp2_with fail
   refine (of_int 1 w3 (by omega)).mono ?_
   rintro e w4 ⟨b,HB,rfl,hu2⟩
   go_wp2_with fail
   refine (pk5 a b m 1 w4 HA.out HB.out (Nat.le_trans (pfo (by omega)) (by omega)) (Nat.le_trans (pfo (by omega)) (by omega))).mono ?_
   rintro e w5 ⟨c,HC,rfl,hu3⟩
   go_wp2_with fail
   refine (pko (m+1) w5 c HC.out (by omega)).mono ?_
   rintro e w6 ⟨y,HY,hy,rfl,hu4⟩
   have hl:(Lib.decDigits (m+1)).length≤19:=pc0 (by omega)
   have hy2:y.size≤19:=Nat.le_trans hy hl
   clear hl hy
   go_wp2_with fail
   go_ret
   refine ⟨_,?_,?_,rfl,(hu1.trans hu2).trans (hu3.trans hu4)⟩
   · show _=_
     rw [pnd hlt,HN.out,pae,HY.out]
     rfl
   · rw [pnd hlt,HN.out,← HY.out,List.length_append,pac,ByteArray.size_append]
     exact Nat.le_refl _
def csV (L K P KM S C KS:Value):Array Value:=#[L,K,P,KM,.int .i64 4,.int .i64 0,S,L,S,C,K,P,KS]
def csZ:Array Value:=#[.slice none 0 0,.slice none 0 0,.slice none 0 0,.slice none 0 0,.int .i64 0,.int .i64 0,.slice none 0 0,.slice none 0 0,.slice none 0 0,.slice none 0 0,.slice none 0 0,.slice none 0 0,.slice none 0 0]
theorem pnf (L K P KM S C KS:Value):(Tryz.prog.info? 34).map (·.size)=some (csV L K P KM S C KS).size:=by
 show _=some 13
 kernel_rfl
def pp2 (k:Nat):List UInt8:=[107,105,111,115,107,32] ++ Lib.itoa (k:Int)
def phW (k:Nat):Nat:=keyN (pp2 k)
def phX (k:Nat):Mem:=⟨70+(k:Int),0,(gP (phW k):Int)⟩
def kskL (k:Nat):List Mem:=(List.range k).map phX
def kskS (k:Nat):List Nat:=(List.range k).map phW
theorem png (k:Nat):kskL (k+1)=kskL k ++ [phX k]:=by simp [kskL,List.range_succ]
theorem pnh (k:Nat):kskS (k+1)=kskS k ++ [phW k]:=by simp [kskS,List.range_succ]
theorem pkp (k:Nat):(kskL k).length=k:=by simp [kskL]
theorem pkq (k:Nat):(kskS k).length=k:=by simp [kskS]
structure CsSt (w1 wr:World) (g2 g4:Nat) (L K P KM S C KS:Value) (k:Nat):Prop where
 row:wr.heap[g4]? =some (.cells (csV L K P KM S C KS) 34 (0,0))
 res:wr.heap[g2]? =some (.cells csZ 34 (0,0))
 mem:wr.ownsRow 0 64 3 KM k (pbN (kskL k))
 sec:wr.ownsRow 0 3 1 KS k (pah (kskS k))
 up:Upd [] [] w1 wr
 base:g2<g4∧w1.heap.size≤g4
 offm:∀ x,x∈foot KM→g4<x
 offs:∀ x,x∈foot KS→g4<x
 apart:∀ x,x∈foot KM→x ∉ foot KS
section
variable {w1 wr w' : World} {g2 g4 k : Nat} {L K P KM S C KS KM' KS' : Value}
theorem CsSt.lt (h:CsSt w1 wr g2 g4 L K P KM S C KS k):g4<wr.heap.size:=pag h.row
theorem CsSt.quiet (h:CsSt w1 wr g2 g4 L K P KM S C KS k) (u:Upd [] [] wr w'):CsSt w1 w' g2 g4 L K P KM S C KS k :=
 ⟨paa h.row u,paa h.res u,pds h.mem u,pds h.sec u,h.up.trans u,h.base,h.offm,h.offs,h.apart⟩
theorem CsSt.grownS (h:CsSt w1 wr g2 g4 L K P KM S C KS k) (u:Upd (foot KS) (foot KS') wr w'):w'.heap[g4]? =some (.cells (csV L K P KM S C KS) 34 (0,0)) :=
 (u.block g4 h.lt (fun q=>Nat.lt_irrefl _ (h.offs g4 q))).trans h.row
theorem CsSt.addS (h:CsSt w1 wr g2 g4 L K P KM S C KS k) (u:Upd (foot KS) (foot KS') wr w') (hr:w'.ownsRow 0 3 1 KS' (k+1) (pah (kskS (k+1)))) :
 (w'.setCell ⟨g4,12,none⟩ KS').heap[g4]? =some (.cells (csV L K P KM S C KS') 34 (0,0))∧(w'.setCell ⟨g4,12,none⟩ KS').heap[g2]? =some (.cells csZ 34 (0,0))∧(w'.setCell ⟨g4,12,none⟩ KS').ownsRow 0 64 3 KM k (pbN (kskL k))∧(w'.setCell ⟨g4,12,none⟩ KS').ownsRow 0 3 1 KS' (k+1) (pah (kskS (k+1)))∧Upd [] [] w1 (w'.setCell ⟨g4,12,none⟩ KS')∧(∀ x,x∈foot KS'→g4<x)∧∀ x,x∈foot KM→x ∉ foot KS':=by
 have hD:=h.lt
 have hb:=h.base
 have hoff:∀ x,x∈foot KS'→g4<x:=fun x hx=>by
  rcases u.new x hx with e | e
  · exact h.offs x e
  · omega
 have hsame:∀ x,x≠g4→(w'.setCell ⟨g4,12,none⟩ KS').heap[x]? =w'.heap[x]?:=fun x hx=>Below.heap_setCell _ _ _ _ hx
 refine ⟨heap_setCell_same w' g4 12 _ _ KS' (h.grownS u),?_,?_,?_,?_,hoff,fun x hx hs=>?_⟩
 · rw [hsame g2 (by omega),u.block g2 (by omega) (fun q=>by have:=h.offs g2 q;omega)]
   exact h.res
 · exact pai h.mem (fun x hx=>(hsame x (by have:=h.offm x hx;omega)).trans (u.block x (paf h.mem x hx) (fun hs=>h.apart x hx hs)))
 · exact pai hr (fun x hx=>hsame x (by have:=hoff x hx;omega))
 · exact (h.up.past2 u (fun x hx=>by have:=h.offs x hx;omega)).setNew (p:=⟨g4,12,none⟩) (by show w1.heap.size≤g4;omega) _
 · rcases u.new x hs with e | e
   · exact h.apart x hx e
   · have:=paf h.mem x hx;omega
theorem CsSt.addM (h1:wr.heap[g4]? =some (.cells (csV L K P KM S C KS) 34 (0,0))) (h2:wr.heap[g2]? =some (.cells csZ 34 (0,0))) (hs:wr.ownsRow 0 3 1 KS (k+1) (pah (kskS (k+1)))) (hup:Upd [] [] w1 wr) (hb:g2<g4∧w1.heap.size≤g4) (offm:∀ x,x∈foot KM→g4<x) (offs:∀ x,x∈foot KS→g4<x) (ap:∀ x,x∈foot KM→x ∉ foot KS)
 (u:Upd (foot KM) (foot KM') wr w') (hr:w'.ownsRow 0 64 3 KM' (k+1) (pbN (kskL (k+1)))):w'.heap[g4]? =some (.cells (csV L K P KM S C KS) 34 (0,0))∧CsSt w1 (w'.setCell ⟨g4,3,none⟩ KM') g2 g4 L K P KM' S C KS (k+1):=by
 have hD:g4<wr.heap.size:=pag h1
 have hoff:∀ x,x∈foot KM'→g4<x:=fun x hx=>by
  rcases u.new x hx with e | e
  · exact offm x e
  · omega
 have hsame:∀ x,x≠g4→(w'.setCell ⟨g4,3,none⟩ KM').heap[x]? =w'.heap[x]?:=fun x hx=>Below.heap_setCell _ _ _ _ hx
 have hg:w'.heap[g4]? =some (.cells (csV L K P KM S C KS) 34 (0,0)):=(u.block g4 hD (fun q=>Nat.lt_irrefl _ (offm g4 q))).trans h1
 refine ⟨hg,heap_setCell_same w' g4 3 _ _ KM' hg,?_,?_,?_,?_,hb,hoff,offs,fun x hx hsx=>?_⟩
 · rw [hsame g2 (by omega),u.block g2 (by omega) (fun q=>by have:=offm g2 q;omega)]
   exact h2
 · exact pai hr (fun x hx=>hsame x (by have:=hoff x hx;omega))
 · exact pai hs (fun x hx=>(hsame x (by have:=offs x hx;omega)).trans (u.block x (paf hs x hx) (fun hm=>ap x hm hx)))
 · exact (hup.past2 u (fun x hx=>by have:=offm x hx;omega)).setNew (p:=⟨g4,3,none⟩) (by show w1.heap.size≤g4;omega) _
 · rcases u.new x hx with e | e
   · exact ap x e hsx
   · have:=paf hs x hsx;omega
end
structure CaseRd (l:List Int) (W:World) (L K P KM S C KS:Value):Prop where
 made:MadeRd l W L S C K P
 kmem:∃ ao cap,KM=.slice ao 2 cap∧2≤cap∧cap≤maxLen∧pez W ao (kskL 2)
 ksec:Sl W KS (kskS 2)
theorem CaseRd.upd {l:List Int} {w w':World} {L K P KM S C KS:Value} (h:CaseRd l w L K P KM S C KS) (u:Upd [] [] w w'):CaseRd l w' L K P KM S C KS:=by
 obtain ⟨ao,cap,e,h1,h2,hm⟩:=h.kmem
 exact ⟨h.made.upd u,⟨ao,cap,e,h1,h2,hm.upd u⟩,h.ksec.upd u⟩
def pqX (l:List Int) (w:World) (e:Ending) (w':World):Prop:=∃ L K P KM S C KS:Value,Hid (CaseRd l w' L K P KM S C KS)∧e=.returned (.agg (csV L K P KM S C KS))∧Upd [] [] w w'
theorem pp3 (L K P:Value) (la:Option Addr) (ln lc:Nat) (ka:Option Addr) (kn kc:Nat) (pa:Option Addr) (pn pc:Nat) (hL:L=.slice la ln lc) (hK:K=.slice ka kn kc) (hP:P=.slice pa pn pc) :
 Tryz.prog.built 30 [(0,L),(1,.agg #[K,P]),(3,.int .i64 4)]=some #[L,K,P,.slice none 0 0,.int .i64 4,.int .i64 0]:=by
 rw [hL,hK,hP]
 kernel_rfl
theorem pp4 (L K P S C:Value) (la:Option Addr) (ln lc:Nat) (ka:Option Addr) (kn kc:Nat) (pa:Option Addr) (pn pc:Nat) (sa:Option Addr) (sn sc:Nat) (ca:Option Addr) (cn cc:Nat) (hL:L=.slice la ln lc) (hK:K=.slice ka kn kc) (hP:P=.slice pa pn pc) (hS:S=.slice sa sn sc) (hC:C=.slice ca cn cc) :
 Tryz.prog.built 34 [(0,.agg #[L,K,P,.slice none 0 0,.int .i64 4,.int .i64 0]),(1,S),(2,.agg (grV L S C K P))]=some (csV L K P (.slice none 0 0) S C (.slice none 0 0)):=by
 rw [hL,hK,hP,hS,hC]
 kernel_rfl
set_option maxHeartbeats 4000000 in
theorem ple (l:List Int) (v:Value) (w:World) (hv:RdO w v l) (hi:∀ x∈l,pab x) (hl:l.length≤9223372036854775807) :
 Calls Tryz.prog 5 #[v] w (pqX l w):=by
 obtain ⟨gR,hgR⟩:∃ g,w.heap.size=g:=⟨_,rfl⟩
 obtain ⟨w0,hw0⟩:∃ W,w.alloc (.cells csZ 34)=W:=⟨_,rfl⟩
 have s0:=Lib.hid (show w0.heap[gR]? =some (.cells csZ 34 (0,0)) by rw [← hgR,← hw0];exact heap_alloc_new _ _)
 have u0:=Lib.hid (show Upd [] [] w w0 by rw [← hw0];exact (Upd.refl _ _).alloc _)
 have HG:Hid (w.heap.size≤gR):=Nat.le_of_eq hgR
 have hw0':w.alloc (.cells #[.slice none 0 0,.slice none 0 0,.slice none 0 0,.slice none 0 0,.int .i64 0,.int .i64 0,.slice none 0 0,.slice none 0 0,.slice none 0 0,.slice none 0 0,.slice none 0 0,.slice none 0 0,.slice none 0 0] 34)=w0:=hw0
 have HMD:=Lib.hid (pnc l v w0 (hv.upd u0.out) hi hl)
 clear hv hi hl hw0
 go_enter Tryz.func5,Tryz.ntmps5
 go_wp2_with fail
 refine HMD.out.mono ?_
 rintro e w1 ⟨L,S,C,K,P,HR,rfl,hq1⟩
 have HM1:=Lib.hid (HR.out w1 (paB.refl _ _))
 obtain ⟨la,lc,hL,_,_,_⟩:=HM1.out.crew
 obtain ⟨sa,sc,hS,_,_⟩:=HM1.out.secs.form
 obtain ⟨ca,cc,hC,_,_⟩:=HM1.out.coefs.form
 obtain ⟨ka,kc,hK,_,_⟩:=HM1.out.coms.form
 obtain ⟨pa,pc,hP,_,_,_⟩:=HM1.out.pts
 have HLF:=Lib.hid (And.intro hL (And.intro hS (And.intro hC (And.intro hK hP))))
 obtain ⟨GV,hGV⟩:∃ GV,GV=grV L S C K P:=⟨_,rfl⟩
 rw [← hGV]
 have HI:Hid ((Tryz.prog.info? 32).map (·.size)=some GV.size):=by rw [hGV];exact pm5 _ _ _ _ _
 have HZ:Hid (grZ.size=GV.size):=by show _=_;rw [hGV];rfl
 have HO:Hid (GV.all (·.oneCell')=true):=by show _=_;rw [hGV,hL,hS,hC,hK,hP];simp [grV,Value.oneCell']
 obtain ⟨w2,Z2,W2,R2,hq2⟩:=paC w1 32 grZ GV
 obtain ⟨g3,hg3⟩:∃ g,w1.heap.size=g:=⟨_,rfl⟩
 rw [hg3] at Z2 W2 R2
 have hz2:(w1.alloc (.cells grZ 32)).setRow g3 GV=w2:=W2.out
 have R2g:w2.heap[g3]? =some (.cells (grV L S C K P) 32 (0,0)):=by rw [← hGV];exact R2.out
 have d0:w2.cell? ⟨g3,0,none⟩=some L:=cell_of_row _ g3 0 _ _ _ R2g
 have d1:w2.cell? ⟨g3,1,none⟩=some S:=cell_of_row _ g3 1 _ _ _ R2g
 have HLK:Hid ((Instr.loadAt 28 (.pointer (some ⟨g3,3,none⟩))).run Tryz.prog w2=.ok (.agg #[K,P]) w2) :=
  run_loadAt_mid w2 g3 3 28 [K,P] _ (fun j x hx=>by
   match j,hx with
   | 0,hx=>simp at hx;subst hx;exact cell_of_row _ g3 3 _ _ _ R2g
   | 1,hx=>simp at hx;subst hx;exact cell_of_row _ g3 4 _ _ _ R2g) Tryz.underlying28 rfl (pm4 K P)
 obtain ⟨KV,hKV⟩:∃ KV:Array Value,KV=#[K,P]:=⟨_,rfl⟩
 obtain ⟨SU,hSU⟩:∃ SU:Array Value,SU=#[L,K,P,.slice none 0 0,.int .i64 4,.int .i64 0]:=⟨_,rfl⟩
 obtain ⟨CV,hCV⟩:∃ CV:Array Value,CV=csV L K P (.slice none 0 0) S C (.slice none 0 0):=⟨_,rfl⟩
 have HB1:Hid (Tryz.prog.built 30 [(0,L),(1,.agg KV),(3,.int .i64 4)]=some SU):=by show _=_;rw [hKV,hSU];exact pp3 _ _ _ _ _ _ _ _ _ _ _ _ hL hK hP
 have HB2:Hid (Tryz.prog.built 34 [(0,.agg SU),(1,S),(2,.agg GV)]=some CV):=by show _=_;rw [hSU,hGV,hCV];exact pp4 _ _ _ _ _ _ _ _ _ _ _ _ _ _ _ _ _ _ _ _ hL hK hP hS hC
 have HCI:Hid ((Tryz.prog.info? 34).map (·.size)=some CV.size):=by rw [hCV];exact pnf _ _ _ _ _ _ _
 have HCZ:Hid (csZ.size=CV.size):=by show _=_;rw [hCV];rfl
 have HCO:Hid (CV.all (·.oneCell')=true):=by show _=_;rw [hCV,hL,hS,hC,hK,hP];simp [csV,Value.oneCell']
 rw [← hKV] at HLK
 obtain ⟨w3,Z3,W3,R3,hq3⟩:=paC w2 34 csZ CV
 obtain ⟨g4,hg4⟩:∃ g,w2.heap.size=g:=⟨_,rfl⟩
 rw [hg4] at Z3 W3 R3
 have hz3:(w2.alloc (.cells csZ 34)).setRow g4 CV=w3:=W3.out
 have HC3:Hid (CsSt w1 w3 gR g4 L K P (.slice none 0 0) S C (.slice none 0 0) 0) :=
  ⟨by rw [← hCV];exact R3.out,paa (paa (paa s0.out hq1) hq2) hq3,World.ownsRow_nil _ _ _ _,World.ownsRow_nil _ _ _ _,hq2.trans hq3,⟨by rw [← hg4];exact Nat.lt_of_lt_of_le (pag s0.out) (Nat.le_trans hq1.size hq2.size),by rw [← hg4];exact hq2.size⟩,(fun x h=>by cases h),(fun x h=>by cases h),(fun x h=>by cases h)⟩
 have U1:=Lib.hid (u0.out.trans hq1)
 have HSZ:Hid (w0.heap.size≤w1.heap.size):=hq1.size
 clear hL hS hC hK hP hGV hq1 hq2 hq3 R2g hKV hSU hCV W2 W3 R3 HMD
 go_wp2_with (first | (refine wpList_store_rowAs rfl 32 _ _ rfl g3 GV rfl rfl _ _ Z2.out HI.out HZ.out HO.out w2 hz2 ?_) | (refine wpList_load_atW rfl 28 _ rfl g3 3 rfl KV HLK.out ?_) | (refine wpList_load_row rfl 32 _ rfl g3 rfl _ GV _ _ R2.out Tryz.underlying32 rfl HI.out ?_) | (refine wpList_buildTo rfl 30 _ rfl _ rfl SU (Eq.trans (congrArg (fun z=>Tryz.prog.built 30 z) (by kernel_rfl)) HB1.out) ?_) | (refine wpList_buildTo rfl 34 _ rfl _ rfl CV (Eq.trans (congrArg (fun z=>Tryz.prog.built 34 z) (by kernel_rfl)) HB2.out) ?_) | (refine wpList_store_rowAs rfl 34 _ _ rfl g4 CV rfl rfl _ _ Z3.out HCI.out HCZ.out HCO.out w3 hz3 ?_))
 clear d0 d1 HLK HB1 HB2 HCI HCZ HCO HI HZ HO hz2 hz3 hg3 hg4 Z2 Z3 R2 hw0' hgR
 have h6:(ByteArray.mk #[107,105,111,115,107,32]).size=6:=rfl
 go_loopw [5,6,7] (fun i _ _ wr=>∃ (k:Nat) (KM KS:Value),i=.int .i64 (k:Int)∧k≤2∧Hid (CsSt w1 wr gR g4 L K P KM S C KS k)) (fun i _ _ _=>2 - (intOf i).toNat)
 case atStart=>exact ⟨0,_,_,rfl,Nat.zero_le _,HC3.out⟩
 case round =>
  obtain ⟨k,KM,KS,rfl,hk,HC⟩:=hrel
  by_cases hlt:k<2
  · have hi:pab (k:Int):=by unfold pab;omega
    have hitl:=itoa_len (k:Int) hi
    have x1:(k:Int)<2:=by omega
    go_wp2_with fail
    refine (paL (k:Int) wr hi).mono ?_
    rintro e w4 ⟨y,HY,hy,rfl,hq⟩
    have HC4:=Lib.hid (HC.out.quiet hq)
    clear hq HC
    go_wp2_with fail
    refine (pjY _ w4 (by simp [ByteArray.size_append];omega)).mono ?_
    rintro e w5 ⟨a,b,HA,HB,ha,hb,rfl,hq⟩
    have HC5:=Lib.hid (HC4.out.quiet hq)
    clear hq HC4
    obtain ⟨KS',w6,hrunA,hownA,hupA⟩:=pa2 w5 KS (kskS k) k a (pkq k) HC5.out.sec (by omega)
    have hka:phW k=a:=by
     rw [HA.out,pae,HY.out]
     rfl
    rw [← hka,← pnh] at hownA
    obtain ⟨sao,scap,hks,_,_⟩:=paj hownA
    obtain ⟨r1,r2,r3,r4,r5,r6,r7⟩:=HC5.out.addS hupA hownA
    have hgS:=HC5.out.grownS hupA
    have hkmm:phX k=⟨70+(k:Int),0,(b:Int)⟩:=by
     unfold phX phW
     rw [HB.out,pae,HY.out]
     rfl
    obtain ⟨w7,hw7⟩:∃ W,w6.setCell ⟨g4,12,none⟩ KS'=W:=⟨_,rfl⟩
    rw [hw7] at r1 r2 r3 r4 r5
    obtain ⟨KM',w8,hrunB,hownB,hupB⟩:=phQ w7 KM (kskL k) k (70+(k:Int)) 0 (b:Int) (pkp k) r3 (by omega)
    rw [← hkmm,← png] at hownB
    obtain ⟨mao,mcap,hkm,_,_⟩:=paj hownB
    obtain ⟨q1,q2⟩:=CsSt.addM r1 r2 r4 r5 HC5.out.base HC5.out.offm r6 r7 hupB hownB
    have c12:w5.cell? ⟨g4,12,none⟩=some KS:=cell_of_row _ g4 12 _ _ _ HC5.out.row
    have k12:w6.cell? ⟨g4,12,none⟩=some KS:=cell_of_row _ g4 12 _ _ _ hgS
    have f12:w6.frozen? ⟨g4,12,none⟩=false:=frozen_of_row _ g4 12 _ _ hgS
    have c3:w7.cell? ⟨g4,3,none⟩=some KM:=cell_of_row _ g4 3 _ _ _ r1
    have k3:w8.cell? ⟨g4,3,none⟩=some KM:=cell_of_row _ g4 3 _ _ _ q1
    have f3:w8.frozen? ⟨g4,3,none⟩=false:=frozen_of_row _ g4 3 _ _ q1
    subst hks
    subst hkm
    have HQ2:=Lib.hid q2
    have HRA:=Lib.hid hrunA
    have HRB:=Lib.hid hrunB
    clear hrunA hownA hupA hrunB hownB hupB r1 r2 r3 r4 r5 r6 r7 q1 q2 hgS hka hkmm HC5 HA HB HY hitl hy hi
    go_wp2_with (first | (refine wpList_append_run _ rfl _ _ _ _ rfl _ _ (.slice sao (k+1) scap) w6 rfl rfl HRA.out ?_) | (refine wpList_append_run _ rfl _ _ _ _ rfl _ _ (.slice mao (k+1) mcap) w8 rfl rfl HRB.out ?_))
    exact ⟨⟨k+1,_,_,by go_num,by omega,HQ2.out⟩,(by first | (simp [intOf];done) | (simp [intOf];omega))⟩
  · obtain rfl:k=2:=by omega
    obtain ⟨CF,hCF⟩:∃ CF,CF=csV L K P KM S C KS:=⟨_,rfl⟩
    have R9:Hid (wr.heap[g4]? =some (.cells CF 34 (0,0))):=by rw [hCF];exact HC.out.row
    have S9:=Lib.hid HC.out.res
    have HFI:Hid ((Tryz.prog.info? 34).map (·.size)=some CF.size):=by rw [hCF];exact pnf _ _ _ _ _ _ _
    have HFZ:Hid (csZ.size=CF.size):=by show _=_;rw [hCF];rfl
    obtain ⟨mao,mcap,hkm,hm1,hm2⟩:=paj HC.out.mem
    obtain ⟨sao,scap,hks,_,_⟩:=paj HC.out.sec
    have HFO:Hid (CF.all (·.oneCell')=true):=by
     obtain ⟨hL,hS,hC,hK,hP⟩:=HLF.out
     show _=_
     rw [hCF,hL,hS,hC,hK,hP,hkm,hks]
     simp [csV,Value.oneCell']
    obtain ⟨wF,hwF⟩:∃ W,wr.setRow gR CF=W:=⟨_,rfl⟩
    have SF:=Lib.hid (show wF.heap[gR]? =some (.cells CF 34 (0,0)) by rw [← hwF];exact setRow_heap _ _ _ _ _ _ S9.out)
    have hb:=HC.out.base
    have hgl:=pag s0.out
    have hsame:∀ x,x≠gR→wF.heap[x]? =wr.heap[x]?:=fun x hx=>by rw [← hwF];exact setRow_other _ _ _ _ hx
    have hnew:paB w0 w1 wF:=fun x h1 h2=>(hsame x (by omega)).trans (HC.out.up.block x h2 (by simp))
    have HFR:Hid (CaseRd l wF L K P KM S C KS):=by
     refine ⟨HR.out wF hnew,?_,Sl.of_digs (pkq 2) (pai HC.out.sec (fun x hx=>hsame x (by have:=HC.out.offs x hx;omega)))⟩
     obtain ⟨ao,cap,e,h1,h2,h3⟩:=pd7 (pkp 2) (pai (w':=wF) HC.out.mem (fun x hx=>hsame x (by have:=HC.out.offm x hx;omega)))
     exact ⟨ao,cap,e,h1,h2,h3⟩
    have HUF:Hid (Upd [] [] w wF):=by rw [← hwF];exact (U1.out.trans HC.out.up).setRowNew HG.out CF
    have HCF:=Lib.hid hCF
    have HWF:=Lib.hid hwF
    have x1:¬ ((2:Nat):Int)<2:=by omega
    clear hCF hkm hks hwF hb hgl hsame hnew HC HLF HR HM1
    go_wp2_with (first | (refine wpList_load_row rfl 34 _ rfl g4 rfl _ CF _ _ R9.out Tryz.underlying34 rfl HFI.out ?_) | (refine wpList_store_rowAs rfl 34 _ _ rfl gR CF rfl rfl _ _ S9.out HFI.out HFZ.out HFO.out wF HWF.out ?_))
    refine bodyPost_ret (results_cell_row rfl _ _ gR _ CF _ _ rfl SF.out Tryz.underlying34 rfl HFI.out) rfl ⟨L,K,P,KM,S,C,KS,HFR,by rw [HCF.out],HUF.out⟩
theorem pqY {l:List Int} {w:World} {L K P KM S C KS:Value} (h:CaseRd l w L K P KM S C KS) (CA:Array Value) (hCA:CA=csV L K P KM S C KS):Hid ((Tryz.prog.info? 34).map (·.size)=some CA.size)∧Hid (CA.all (·.oneCell')=true):=by
 subst hCA
 refine ⟨pnf _ _ _ _ _ _ _,?_⟩
 obtain ⟨a0,n0,e0,_⟩:=h.made.crew
 obtain ⟨a1,n1,e1,_⟩:=h.made.coms
 obtain ⟨a2,n2,e2,_⟩:=h.made.pts
 obtain ⟨a3,n3,e3,_⟩:=h.kmem
 obtain ⟨a4,n4,e4,_⟩:=h.made.secs
 obtain ⟨a5,n5,e5,_⟩:=h.made.coefs
 obtain ⟨a6,n6,e6,_⟩:=h.ksec
 show _=_
 rw [e0,e1,e2,e3,e4,e5,e6]
 simp [csV,Value.oneCell']
theorem CaseRd.pts {l:List Int} {w:World} {L K P KM S C KS:Value} (h:CaseRd l w L K P KM S C KS) {k:Nat} (hk:k<pax l):∃ gp pc gx xn xc,P=.slice (some ⟨gp,0,none⟩) (pax l) pc∧gp<w.heap.size∧w.cell? ⟨gp,k,none⟩=some (.slice (some ⟨gx,0,none⟩) xn xc)∧1≤xn∧xn≤3∧gx<w.heap.size∧∀ j,j<xn→∃ x:Nat,1≤x∧x≤(wsN l (pax l)).sum∧w.cell? ⟨gx,j,none⟩=some (.int .i64 (x:Int)):=by
 obtain ⟨ao,cap,e,h1,h2,h3⟩:=h.made.pts
 have hg:(wsN l (pax l)).length=pax l:=by simp [wsN]
 have hok:=pfX l
 obtain ⟨x,hx⟩:∃ x,(wsN l (pax l))[k]? =some x:=⟨_,List.getElem?_eq_getElem (by omega)⟩
 have hx1:=hok.2.2 x (List.mem_of_getElem? hx)
 obtain ⟨g,u,ea,hgs,hc,hs⟩:=h3 k _ (pcM hx)
 rw [pbw,hg,ea] at e
 obtain ⟨ao2,cap2,rfl,q1,q2,q3⟩:=hs
 have hl:=pb2 (wsN l (pax l)) k x
 rcases q3 with q3 | ⟨b,rfl,hb,hcc⟩
 · omega
 · have hst:startN (wsN l (pax l)) k+x≤(wsN l (pax l)).sum:=by
    have e1:startN (wsN l (pax l)) (k+1)=startN (wsN l (pax l)) k+x:=by
     unfold startN
     rw [List.take_add_one,hx]
     simp
    rw [← e1]
    exact pbE _ _
   refine ⟨g,cap,b,_,cap2,e,hgs,hc,by omega,by omega,hb,fun j hj=>⟨startN (wsN l (pax l)) k+j+1,by omega,by omega,hcc j _ ?_⟩⟩
   unfold pcl
   rw [List.getElem?_map,List.getElem?_range (by omega)]
   rfl
structure EvG where
 q:Int
 k:Int
 h:Int
 t:Int
 n:Int
 x:ByteArray
 p:List UInt8
 r:Int
 s:Int
def EvG.ok (e:EvG):Prop:=pab e.q∧pab e.k∧pab e.h∧pab e.t∧pab e.n∧e.p.length=32∧pab e.r∧pab e.s
def EvG.V (e:EvG):List Value:=[.int .i64 e.q,.int .i64 e.k,.int .i64 e.h,.int .i64 e.t,.int .i64 e.n,.string e.x] ++ (byteVals e.p ++ [.int .i64 e.r,.int .i64 e.s])
theorem EvG.V_len {e:EvG} (h:e.p.length=32):e.V.length=40:=by simp [EvG.V,byteVals,h]
theorem EvG.V_one (e:EvG):∀ u∈e.V,u.oneCell'=true:=by
 intro u hu
 simp only [EvG.V,List.mem_append,List.mem_cons,List.not_mem_nil,or_false] at hu
 rcases hu with (rfl | rfl | rfl | rfl | rfl | rfl) | hu | rfl | rfl
 all_goals first | rfl | exact paG _ _ hu
def pa4 (t:List UInt8):List UInt8:=Lib.itoa (t.length:Int) ++ 58 :: t
def EvG.parts (e:EvG):List (List UInt8):=[Lib.itoa e.r,Lib.itoa e.s,wEv,Lib.itoa e.q,Lib.itoa e.k,Lib.itoa e.h,Lib.itoa e.t,Lib.itoa e.n,hexL e.p,pa4 (bs e.x)]
def EvG.text (e:EvG):List UInt8:=wEv ++ 32 :: (Lib.itoa e.q ++ 32 :: (Lib.itoa e.k ++ 32 :: (Lib.itoa e.h ++ 32 :: (Lib.itoa e.t ++ 32 :: (Lib.itoa e.n ++ 32 :: (hexL e.p ++ 32 :: pa4 (bs e.x)))))))
def EvG.code (e:EvG):List UInt8:=Lib.itoa e.r ++ 32 :: (Lib.itoa e.s ++ 32 :: e.text)
theorem EvG.text_join (e:EvG):Lib.join [wEv,Lib.itoa e.q,Lib.itoa e.k,Lib.itoa e.h,Lib.itoa e.t,Lib.itoa e.n,hexL e.p,pa4 (bs e.x)] [32]=e.text:=by
 simp [Lib.join,List.intercalate_cons_cons,EvG.text]
theorem EvG.code_len (e:EvG):9≤e.code.length:=by
 simp only [EvG.code,EvG.text,List.length_append,List.length_cons]
 omega
theorem EvG.text_len {e:EvG} (h:e.ok) (z:e.x.size≤1000000000):e.text.length≤e.x.size+250:=by
 obtain ⟨a,b,c,d,f,g,_,_⟩:=h
 have h1:=itoa_len _ a
 have h2:=itoa_len _ b
 have h3:=itoa_len _ c
 have h4:=itoa_len _ d
 have h5:=itoa_len _ f
 have h6:=pa6 e.p
 have h7:=itoa_len ((bs e.x).length:Int) (by rw [pac];unfold pab;omega)
 have h8:(bs e.x).length=e.x.size:=pac _
 simp only [EvG.text,pa4,List.length_append,List.length_cons]
 have:wEv.length=5:=rfl
 omega
theorem poF:(32:UInt8) ∉ wEv:=by decide
theorem EvG.code_split (e:EvG):Lib.splitK [32] 0 9 e.code=e.parts:=by
 unfold EvG.code EvG.text
 rw [pa3 (itoa_no32 _),pa3 (itoa_no32 _),pa3 poF,pa3 (itoa_no32 _),pa3 (itoa_no32 _),pa3 (itoa_no32 _),pa3 (itoa_no32 _),pa3 (itoa_no32 _),pa3 (pfg _)]
 rfl
def pan (l:List UInt8) (e:EvG):Prop:=e.ok∧l=e.code
theorem peM (t:List UInt8) (R:List UInt8):Lib.cut (Lib.itoa (t.length:Int) ++ 58 :: R) [58]=(Lib.itoa (t.length:Int),R,true):=pbf 58 _ _ (pmz _)
theorem word_inj {a b A B:List UInt8} (ha:a.length≤9223372036854775807) (hb:b.length≤9223372036854775807) (h:pa4 a ++ A=pa4 b ++ B):a=b∧A=B:=by
 have e1:pa4 a ++ A=Lib.itoa (a.length:Int) ++ 58 :: (a ++ A):=by simp [pa4]
 have e2:pa4 b ++ B=Lib.itoa (b.length:Int) ++ 58 :: (b ++ B):=by simp [pa4]
 rw [e1,e2] at h
 have c1:=peM a (a ++ A)
 rw [h,peM b (b ++ B)] at c1
 injection c1 with c1 c2
 injection c2 with c2 _
 have hl:(b.length:Int)=(a.length:Int):=paI (by unfold pab;omega) (by unfold pab;omega) c1
 have hl:b.length=a.length:=by omega
 have:=List.append_inj c2 hl
 exact ⟨this.1.symm,this.2.symm⟩
theorem pcn {l:List UInt8} {e f:EvG} (he:pan l e) (hf:pan l f) (ze:e.x.size≤1000000000) (zf:f.x.size≤1000000000):e=f:=by
 obtain ⟨⟨a1,a2,a3,a4,a5,a6,a7,a8⟩,he⟩:=he
 obtain ⟨⟨b1,b2,b3,b4,b5,b6,b7,b8⟩,hf⟩:=hf
 have h:=e.code_split
 rw [← he,hf,f.code_split] at h
 simp only [EvG.parts,List.cons.injEq,and_true,true_and] at h
 obtain ⟨h1,h2,h3,h4,h5,h6,h7,h8,h9⟩:=h
 cases e with
 | mk q k hh t n x p r s =>
 cases f with
 | mk q' k' hh' t' n' x' p' r' s' =>
 dsimp only at *
 obtain rfl:=paI b7 a7 h1
 obtain rfl:=paI b8 a8 h2
 obtain rfl:=paI b1 a1 h3
 obtain rfl:=paI b2 a2 h4
 obtain rfl:=paI b3 a3 h5
 obtain rfl:=paI b4 a4 h6
 obtain rfl:=paI b5 a5 h7
 obtain rfl:=pkc h8
 have hw:=word_inj (a:=bs x') (b:=bs x) (A:=[]) (B:=[]) (by rw [pac];omega) (by rw [pac];omega) (by rw [List.append_nil,List.append_nil];exact h9)
 obtain rfl:=paM hw.1
 rfl
theorem pan.size {l:List UInt8} {e:EvG} (h:pan l e):e.x.size≤l.length:=by
 rw [h.2,← pac]
 simp only [EvG.code,EvG.text,pa4,List.length_append,List.length_cons]
 omega
end Go.Proofs.YtheobkejohifaaaGreatDoor
