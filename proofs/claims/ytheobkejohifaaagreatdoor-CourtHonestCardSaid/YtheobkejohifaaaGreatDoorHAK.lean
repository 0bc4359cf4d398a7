/- Numbers in decimal by the reference and what follows. -/
import Derived.Test.YtheobkejohifaaaGreatDoorHAI
import Derived.Test.YtheobkejohifaaaGreatDoorHAC
import Derived.Test.YtheobkejohifaaaGreatDoorHAE
import Derived.Test.YtheobkejohifaaaGreatDoorHAD
import Derived.Test.YtheobkejohifaaaGreatDoorHAG
import Derived.Test.YtheobkejohifaaaGreatDoorHAJ
import Derived.Deep.MidRow
import Derived.Laws.ResultCell
namespace Go.Proofs.YtheobkejohifaaaGreatDoor
open Go.RowKit
set_option maxRecDepth 100000
theorem pfh (u:Nat) (h:u≤9223372036854775808):(Lib.decDigits u).length≤1000000000:=Nat.le_trans (pc0 h) (by omega)
theorem poq (u:Nat) (h:u<9223372036854775808):(be u).length≤8:=paE 8 u (Nat.lt_trans h (by decide))
theorem pd2 (u:Nat) (w:World) (a:ByteArray) (ha:bs a=be u) (h:u<9223372036854775808):Calls Tryz.prog 27 #[.string a] w (MkS (Lib.decDigits u) w) :=
 pj5 a u w (by rw [ha,paK]) (by rw [paq ha];exact Nat.le_trans (poq u h) (by omega)) (pfh u (by omega))
theorem piZ {n:Int} (h:n<0):Lib.itoa n=[45] ++ Lib.decDigits n.natAbs:=by
 unfold Lib.itoa
 rw [if_pos h]
 rfl
theorem pbF (u:Nat):Lib.itoa (u:Int)=Lib.decDigits u:=by
 unfold Lib.itoa
 rw [if_neg (by omega),Int.toNat_natCast]
def IntsIn (w:World) (g:Nat) (xs:List Int):Prop:=g<w.heap.size∧(∀ (j:Nat) x,xs[j]? =some x→w.cell? ⟨g,j,none⟩=some (.int .i64 x))∧∀ x∈xs,pab x
theorem IntsIn.upd {w w':World} {g:Nat} {xs:List Int} (h:IntsIn w g xs) (u:Upd [] [] w w'):IntsIn w' g xs :=
 ⟨Nat.lt_of_lt_of_le h.1 u.size,fun j x hx=>(u.cell h.1 (by simp)).trans (h.2.1 j x hx),h.2.2⟩
theorem pdK (x:Int) (w:World) (_hx:-9223372036854775808≤x∧x≤9223372036854775807) :
 Calls Tryz.prog 59 #[.int .i64 x] w (fun e w'=>∃ r:Nat,Hid (r=expN x)∧r<1152921504606845789∧e=.returned (.int .i64 (r:Int))∧w=w'):=by
 have e1:=Int.tmod_eq_emod (a:=x) (b:=1152921504606845789)
 have e2:=pe2 x
 have H1:=Lib.hid (And.intro e1 e2)
 clear e1 e2
 have hlt:=pgC x
 go_enter Tryz.func59,Tryz.ntmps59
 go_wp2_with fail
 all_goals go_ret
 all_goals refine ⟨expN x,rfl,hlt,pgw ?_,rfl⟩
 all_goals have h:=H1.out
 all_goals obtain ⟨h1,h2⟩:=h
 all_goals first | simp only [wrap64] | skip
 all_goals split at h1 <;> omega
theorem pmA:∃ i,Tryz.prog.info? 9=some i∧i.zero=some (.string ⟨#[]⟩)∧i.size=1∧i.bytes=16:=by
 have h:(Tryz.prog.info? 9).map (fun i=>(i.zero,i.size,i.bytes))=some (some (.string ⟨#[]⟩),1,16):=by kernel_rfl
 obtain ⟨i,hi,he⟩:=Option.map_eq_some_iff.1 h
 simp only [Prod.mk.injEq] at he
 exact ⟨i,hi,he.1,he.2.1,he.2.2⟩
def pa7 (l:List ByteArray):List Value:=l.map Value.string
theorem pmB (k:Nat):madeCells (Value.string ⟨#[]⟩).cells k=(pa7 (List.replicate k ⟨#[]⟩)).toArray:=by
 apply Array.ext
 · simp [madeCells,pa7]
 · intro i h1 h2
   simp [madeCells,pa7,Value.cells,Nat.mod_one]
theorem pmC (w:World) (n:Nat) (hn:n≤1000):(Instr.makeSlice 92 (.int .i64 (n:Int)) (.int .i64 (n:Int))).run Tryz.prog w=.ok (.slice (some ⟨w.heap.size,0,none⟩) n n) (w.alloc (.cells (pa7 (List.replicate n ⟨#[]⟩)).toArray 9)):=by
 obtain ⟨i0,hi,hz0,hz1,hz2⟩:=pmA
 have:=run_make (P:=Tryz.prog) w 92 9 i0 (.string ⟨#[]⟩) Tryz.underlying92 hi hz0 .i64 .i64 n n (by omega) (by omega) (by rw [hz2];omega) (by omega)
 rw [this,hz1]
 simp only [Int.toNat_natCast,Nat.mul_one,pmB]
theorem phJ (l:List ByteArray) (k:Nat) (x:ByteArray):(pa7 l).toArray.setIfInBounds k (.string x)=(pa7 (l.set k x)).toArray:=by
 simp [pa7,List.map_set]
theorem pkd (wr:World) (g k:Nat) (l:List ByteArray) (t:TypeId) (h:wr.heap[g]? =some (.cells (pa7 l).toArray t (0,0))) (x:ByteArray) (hk:l[k]? =some x) :
 wr.cell? ⟨g,k,none⟩=some (.string x):=by
 rw [cell_of_row wr g k _ _ _ h]
 simp [pa7,hk]
theorem phK (ls:List (List UInt8)) (h:∀ l∈ls,l.length≤20):(Lib.join ls [47]).length≤21 * ls.length:=by
 unfold Lib.join
 induction ls with
 | nil=>simp
 | cons x r ih =>
  have hx:=h x (by simp)
  have ih:=ih (fun l hl=>h l (by simp [hl]))
  cases r with
  | nil=>simp;omega
  | cons y r =>
   simp only [List.intercalate_cons_cons,List.length_append,List.length_cons,List.length_nil] at ih ⊢
   omega
set_option maxHeartbeats 1000000 in
theorem pi0 (word:ByteArray) (xs:List Int) (g c:Nat) (w:World) (hx:IntsIn w g xs) (hw:word.size≤100) (hl:1≤xs.length∧xs.length≤100) (htab:Tabs w) :
 Calls Tryz.prog 236 #[.string word,.slice (some ⟨g,0,none⟩) xs.length c] w (MkN 1152921504606845789 (pei (bs word) xs) w):=by
 have HX:=Lib.hid hx
 clear hx
 go_enter Tryz.func236,Tryz.ntmps236
 go_wp2_with fail
 obtain ⟨n,hn⟩:∃ n,n=xs.length:=⟨_,rfl⟩
 rw [← hn] at hl
 rw [← hn,pmC w n (by omega)]
 have hw1:(w.alloc (.cells (pa7 (List.replicate n ⟨#[]⟩)).toArray 9)).heap[w.heap.size]? =some (.cells (pa7 (List.replicate n ⟨#[]⟩)).toArray 9 (0,0)):=heap_alloc_new _ _
 have HW1:=Lib.hid hw1
 have hu1:Upd [] [] w (w.alloc (.cells (pa7 (List.replicate n ⟨#[]⟩)).toArray 9)):=(Upd.refl _ _).alloc _
 have HNN:=Lib.hid hn
 clear hw1 hn
 go_wp2_with fail
 go_loopw [13] (fun i wr=>∃ (k:Nat) (l:List ByteArray),i=.int .i64 (k:Int)∧k≤n∧Hid (wr.heap[w.heap.size]? =some (.cells (pa7 (l ++ List.replicate (n - k) ⟨#[]⟩)).toArray 9 (0,0)))∧Hid (l.map bs=(xs.take k).map Lib.itoa)∧Upd [] [] w wr) (fun i _=>n - (intOf i).toNat)
 case atStart=>exact ⟨0,[],rfl,Nat.zero_le _,HW1.out,rfl,hu1⟩
 case round =>
  clear HW1 hu1
  obtain ⟨k,l,rfl,hk,HR,HLL,hup⟩:=hrel
  have hll:l.length=k:=by
   have h1:=congrArg List.length HLL.out
   have h2:=HNN.out
   simp at h1
   omega
  by_cases hlt:k<n
  · have hi:=HX.out.upd hup
    have hkl:k<xs.length:=by have:=HNN.out;omega
    obtain ⟨x,hx⟩:∃ x,xs[k]? =some x:=⟨_,List.getElem?_eq_getElem hkl⟩
    have q1:=hi.2.1 k x hx
    have hxi:pab x:=hi.2.2 x (List.mem_of_getElem? hx)
    have htk:xs.take (k+1)=xs.take k ++ [x]:=by
     rw [List.take_add_one,hx];rfl
    have HTK:=Lib.hid htk
    have HLE:=Lib.hid hll
    clear hx htk hi hll
    go_wp2_with fail
    refine (paD x wr hxi (htab.upd hup)).mono ?_
    rintro e w2 ⟨y,HY,hy,rfl,hu2⟩
    have hR2:w2.heap[w.heap.size]? =some (.cells (pa7 (l ++ List.replicate (n - k) ⟨#[]⟩)).toArray 9 (0,0)):=by
     have hR:=HR.out
     rw [hu2.block _ (Array.getElem?_eq_some_iff.1 hR).1 (by simp)];exact hR
    have hup2:=hup.trans hu2
    have q2:w2.cell? ⟨w.heap.size,k,none⟩=some (.string ⟨#[]⟩):=pkd w2 w.heap.size k _ _ hR2 _ (by
     have:=HLE.out
     rw [List.getElem?_append_right (by omega),show k - l.length=0 by omega]
     simp [show 0<n - k by omega])
    have q3:w2.frozen? ⟨w.heap.size,k,none⟩=false:=frozen_of_row w2 w.heap.size k _ _ hR2
    have hR3:=heap_setCell_same w2 w.heap.size k _ _ (.string y) hR2
    have hset:(l ++ List.replicate (n - k) (ByteArray.mk #[])).set k y=(l ++ [y]) ++ List.replicate (n - (k+1)) (ByteArray.mk #[]):=by
     have:=HLE.out
     rw [List.set_append_right _ _ (by omega),show k - l.length=0 by omega,show n - k=(n - (k+1))+1 by omega,List.replicate_succ,List.set_cons_zero,List.append_assoc]
     rfl
    rw [phJ,hset] at hR3
    have HR3:=Lib.hid hR3
    have hup3:=hup2.setNew (p:=⟨w.heap.size,k,none⟩) (Nat.le_refl _) (.string y)
    clear hR2 hR3 hset
    go_wp2_with fail
    refine ⟨⟨k+1,l ++ [y],by go_num,by omega,HR3.out,?_,hup3⟩,by simp [intOf];omega⟩
    show _=_
    rw [HTK.out,List.map_append,List.map_append,HLL.out,List.map_cons,List.map_nil,HY.out]
    rfl
  · have hkn:k=n:=by omega
    have hR:=HR.out
    have hL:=HLL.out
    rw [hkn,Nat.sub_self,List.replicate_zero,List.append_nil] at hR
    rw [hkn,HNN.out,List.take_length] at hL
    have hki:(k:Int)=(n:Int):=by omega
    rw [hki]
    have HRE:=Lib.hid hR
    have HLE:=Lib.hid hL
    have hln:l.length=n:=by omega
    have HLN:=Lib.hid hln
    have hjoin:Lib.join (l.map (·.data.toList)) (ByteArray.mk #[47]).data.toList=Lib.join (xs.map Lib.itoa) [47]:=by
     have:l.map (·.data.toList)=xs.map Lib.itoa:=hL
     rw [this]
    have HJ:=Lib.hid hjoin
    have hjl:(Lib.join (xs.map Lib.itoa) [47]).length≤2100:=by
     have h1:=phK (xs.map Lib.itoa) (by
      intro z hz
      simp only [List.mem_map] at hz
      obtain ⟨v,hv,rfl⟩:=hz
      exact itoa_len v (HX.out.2.2 v hv))
     have h2:=HNN.out
     rw [List.length_map] at h1
     omega
    clear hkn hki hR hL hln hjoin hlt hk HR HLL hll
    have hsl:word.size+1+2100≤3000:=by omega
    have h47:(ByteArray.mk #[47]).size=1:=rfl
    have hlt2:w.heap.size<wr.heap.size:=(Array.getElem?_eq_some_iff.1 HRE.out).1
    go_wp2_with fail
    rw [← HLN.out]
    refine (Tryz.strings_Join w.heap.size 0 _ l ⟨#[47]⟩ wr (fun j x hx=>by rw [Nat.zero_add];exact pkd wr w.heap.size j l _ HRE.out x hx) hlt2 (by have:=HLN.out;omega) (by omega) (by rw [HJ.out];omega)).mono ?_
    rintro e w3 ⟨rfl,hb⟩
    have hu3:=paA hb
    clear hb
    rw [HJ.out]
    obtain ⟨T,hT⟩:∃ T:ByteArray,T=⟨(Lib.join (xs.map Lib.itoa) [47]).toArray⟩:=⟨_,rfl⟩
    rw [← hT]
    have hTb:bs T=Lib.join (xs.map Lib.itoa) [47]:=by rw [hT,pc8]
    have hTl:T.size≤2100:=by rw [paT hTb];exact hjl
    have HTB:=Lib.hid hTb
    clear hT hTb
    go_wp2_with fail
    refine (peZ _ w3 (by simp [ByteArray.size_append];omega) (htab.upd (hup.trans hu3))).mono ?_
    rintro e w4 ⟨r,HRR,hr,rfl,hu4⟩
    go_wp2_with fail
    go_ret
    refine ⟨r,?_,hr,rfl,(hup.trans hu3).trans hu4⟩
    show _=_
    rw [HRR.out,pae,pae,HTB.out,pei,pjR]
    rfl
theorem ppP {w w':World} {g:Nat} {o:Obj} (h:w.heap[g]? =some o) (u:Upd [] [] w w'):w'.heap[g]? =some o:=by
 rw [u.block _ (Array.getElem?_eq_some_iff.1 h).1 (by simp)];exact h
theorem ipE {n:Nat} (h:n<2305843009213691579):pab (n:Int):=⟨by omega,by omega⟩
theorem iqE {n:Nat} (h:n<1152921504606845789):pab (n:Int):=⟨by omega,by omega⟩
theorem pmD (a n:Nat) (m:Int) (w:World) (ha:a≤9223372036854775807) (hn:n≤9223372036854775807) (hm:m=2305843009213691579) :
 Calls Tryz.prog 135 #[.int .i64 (a:Int),.int .i64 (n:Int),.int .i64 m] w (MkN 2305843009213691579 (pP a n) w):=by
 subst hm
 refine (pgz a 2305843009213691579 n w (by omega) hn (by omega)).mono ?_
 rintro e w1 ⟨r,HR,r0,r1,rfl,hu⟩
 obtain ⟨m,rfl⟩:∃ m:Nat,r=(m:Int):=⟨r.toNat,by omega⟩
 refine ⟨m,?_,by omega,rfl,hu⟩
 show _=_
 have h:=HR.out
 rw [pbW] at h
 rw [pP]
 omega
theorem pi1 (a b:Nat) (w:World) (ha:a≤9223372036854775807) (hb:b≤9223372036854775807) :
 Calls Tryz.prog 80 #[.int .i64 (a:Int),.int .i64 (b:Int),.int .i64 2305843009213691579] w (fun e w'=>∃ r:Nat,Hid (r=a * b % Pn)∧r<2305843009213691579∧e=.returned (.int .i64 (r:Int))∧w=w'):=by
 refine (mul_any a b 2305843009213691579 w (by omega) (by omega) (by omega)).mono ?_
 rintro e w1 ⟨r,HR,r0,r1,rfl,rfl⟩
 obtain ⟨m,rfl⟩:∃ m:Nat,r=(m:Int):=⟨r.toNat,by omega⟩
 refine ⟨m,?_,by omega,rfl,rfl⟩
 show _=_
 have h:((m:Nat):Int)=((a * b % Pn:Nat):Int):=by rw [HR.out];simp [Pn]
 omega
theorem ppQ (a b:Nat) (w:World) (ha:a≤9223372036854775807) (hb:b≤9223372036854775807) :
 Calls Tryz.prog 80 #[.int .i64 (a:Int),.int .i64 (b:Int),.int .i64 1152921504606845789] w (fun e w'=>∃ r:Nat,Hid (r=a * b % Qn)∧r<1152921504606845789∧e=.returned (.int .i64 (r:Int))∧w=w'):=by
 refine (mul_any a b 1152921504606845789 w (by omega) (by omega) (by omega)).mono ?_
 rintro e w1 ⟨r,HR,r0,r1,rfl,rfl⟩
 obtain ⟨m,rfl⟩:∃ m:Nat,r=(m:Int):=⟨r.toNat,by omega⟩
 refine ⟨m,?_,by omega,rfl,rfl⟩
 show _=_
 have h:((m:Nat):Int)=((a * b % Qn:Nat):Int):=by rw [HR.out];simp [Qn]
 omega
structure TwoAt (w:World) (gx gk:Nat) (x k:Nat):Prop where
 hx:w.heap[gx]? =some (.cells #[.int .i64 (x:Int)] 3 (0,0))
 hk:w.heap[gk]? =some (.cells #[.int .i64 (k:Int)] 3 (0,0))
theorem pmE (c:Nat) (hc:c<1152921504606845789):IntKind.i64.wrap (1152921504606845789 - (c:Int))=((Qn - c:Nat):Int):=by
 have:Qn=1152921504606845789:=rfl
 rw [pap (by omega) (by omega)];omega
structure ProofAt (w wp:World) (c z:Int):Prop where
 up:Upd [] [] w wp
 row:wp.heap[w.heap.size]? =some (.cells #[.int .i64 c,.int .i64 z] 38 (0,0))
theorem ProofAt.start (w:World) (r s:Int):ProofAt w (w.alloc (.cells #[.int .i64 r,.int .i64 s] 38)) r s:=⟨(Upd.refl _ _).alloc _,heap_alloc_new _ _⟩
theorem ProofAt.upd {w wp wq:World} {r s:Int} (h:ProofAt w wp r s) (u:Upd [] [] wp wq):ProofAt w wq r s:=⟨h.up.trans u,ppP h.row u⟩
theorem ProofAt.cells {w wp:World} {r s:Int} (h:ProofAt w wp r s):wp.cell? ⟨w.heap.size,0,none⟩=some (.int .i64 r)∧wp.cell? ⟨w.heap.size,1,none⟩=some (.int .i64 s) :=
 ⟨by rw [cell_of_row _ _ _ _ _ _ h.row];rfl,by rw [cell_of_row _ _ _ _ _ _ h.row];rfl⟩
theorem ProofAt.free {w wp:World} {r s:Int} (h:ProofAt w wp r s):wp.frozen? ⟨w.heap.size,0,none⟩=false∧wp.frozen? ⟨w.heap.size,1,none⟩=false :=
 ⟨frozen_of_row _ _ _ _ _ h.row,frozen_of_row _ _ _ _ _ h.row⟩
set_option maxHeartbeats 1000000 in
theorem pke (b a c z:Nat) (w0 w:World) (hb:b≤9223372036854775807) (ha:a≤9223372036854775807) (hc:c<1152921504606845789) (hz:z<1152921504606845789) (h:ProofAt w0 w (c:Int) (z:Int)) :
 Calls Tryz.prog 235 #[.int .i64 (b:Int),.int .i64 (a:Int),.pointer (some ⟨w0.heap.size,0,none⟩)] w (MkN 2305843009213691579 (pfD b a c z) w):=by
 have hu0:Upd [] [] w w.drew:=(Upd.refl _ _).drew
 have h4:=h.upd hu0
 have k4:=h4.cells
 have hq1:=pmE c hc
 obtain ⟨m,hm⟩:∃ m,m=Qn - c:=⟨_,rfl⟩
 have hml:m≤1152921504606845789:=by rw [hm];exact Nat.sub_le _ _
 rw [← hm] at hq1
 have HM:=Lib.hid hm
 clear hm
 go_enter Tryz.func235,Tryz.ntmps235
 go_wp2_with fail
 go_region_held3 (fun wp=>wp.cell? ⟨w0.heap.size,0,none⟩=some (.int .i64 (c:Int))∧wp.cell? ⟨w0.heap.size,1,none⟩=some (.int .i64 (z:Int))) (first | exact k4 | assumption)
  (first
   | (go_at_call 135;((with_reducible refine (pmD b z _ _ hb (by omega) rfl).mono ?_);rintro e wq ⟨y1,HY1,hy1,rfl,hq⟩;have u1:=hu0.trans hq;have g1:=h.upd u1;have kq:=g1.cells;clear hq))
   | (go_at_call 135;((with_reducible refine (pmD a m _ _ ha (by omega) rfl).mono ?_);rintro e wq ⟨y2,HY2,hy2,rfl,hq⟩;have u2:=u1.trans hq;have g2:=h.upd u2;have kq:=g2.cells;clear hq))
   | (go_at_call 80;((with_reducible refine (pi1 y1 y2 _ (by omega) (by omega)).mono ?_);rintro e wq ⟨y3,HY3,hy3,rfl,rfl⟩)))
 go_wp2_with fail
 go_ret
 refine ⟨y3,?_,hy3,rfl,u2⟩
 show _=_
 rw [HY3.out,HY1.out,HY2.out,HM.out,pfD]
theorem pkf {n:Int} (h:n≤0):n.tdiv 10=-((n.natAbs / 10:Nat):Int)∧n.tmod 10=-((n.natAbs % 10:Nat):Int):=by
 obtain ⟨u,hu⟩:∃ u:Nat,n=-(u:Int):=⟨n.natAbs,by omega⟩
 subst hu
 have e:(-(u:Int)).natAbs=u:=by omega
 rw [Int.neg_tdiv,Int.neg_tmod,Int.tdiv_eq_ediv_of_nonneg (by omega),Int.tmod_eq_emod_of_nonneg (by omega),e]
 omega
theorem pmG {n:Int} (h:n≤-10):Lib.itoa n=Lib.itoa (n.tdiv 10) ++ Lib.decDigits (n.natAbs % 10):=by
 have h1:n.tdiv 10<0:=by rw [(pkf (by omega)).1];omega
 have h2:(n.tdiv 10).natAbs=n.natAbs / 10:=by rw [Int.natAbs_tdiv];rfl
 unfold Lib.itoa
 rw [if_pos (by omega),if_pos h1,h2,Lib.decDigits,dif_neg (by omega),Lib.decDigits_one (Nat.mod_lt _ (by omega))]
 rfl
set_option maxHeartbeats 1000000 in
theorem phL:∀ (k:Nat) (n:Int) (w:World),n.natAbs≤k→pab n→Calls Tryz.prog 119 #[.int .i64 n] w (MkS (Lib.itoa n) w):=by
 intro k
 induction k with
 | zero =>
  intro n w hk hn
  obtain rfl:n=0:=by omega
  go_enter Tryz.func119,Tryz.ntmps119
  go_wp2_with fail
  refine (of_int 0 w (by omega)).mono ?_
  rintro e w1 ⟨a,HA,rfl,hu1⟩
  go_wp2_with fail
  refine (pd2 0 w1 a HA.out (by omega)).mono ?_
  rintro e w2 ⟨y,HY,hy,rfl,hu2⟩
  go_wp2_with fail
  go_ret
  exact ⟨y,HY.out,hy,rfl,hu1.trans hu2⟩
 | succ k ih =>
  intro n w hk hn
  have HIH:=Lib.hid ih
  clear ih
  have hn1:=hn.1
  have hn2:=hn.2
  by_cases h0:0≤n
  · obtain ⟨u,rfl⟩:=Int.eq_ofNat_of_zero_le h0
    go_enter Tryz.func119,Tryz.ntmps119
    go_wp2_with fail
    refine (of_int u w (by omega)).mono ?_
    rintro e w1 ⟨a,HA,rfl,hu1⟩
    go_wp2_with fail
    refine (pd2 u w1 a HA.out (by omega)).mono ?_
    rintro e w2 ⟨y,HY,hy,rfl,hu2⟩
    go_wp2_with fail
    go_ret
    refine ⟨y,?_,?_,rfl,hu1.trans hu2⟩
    · show _=_
      rw [HY.out];exact (pbF u).symm
    · have:=pbF u
      show _≤(Lib.itoa (u:Int)).length
      rw [this];exact hy
  · by_cases h9:-10<n
    · obtain ⟨u,hu⟩:∃ u:Nat,-n=(u:Int):=⟨n.natAbs,by omega⟩
      have hu2:u<10:=by omega
      have hit:Lib.itoa n=[45] ++ Lib.decDigits u:=by
       have:n.natAbs=u:=by omega
       rw [piZ (by omega),this]
      have HIT:=Lib.hid hit
      have hlt:n<0:=by omega
      clear hit h0
      go_enter Tryz.func119,Tryz.ntmps119
      go_wp2_with fail
      refine (of_int u w (by omega)).mono ?_
      rintro e w1 ⟨a,HA,rfl,hu1⟩
      go_wp2_with fail
      refine (pd2 u w1 a HA.out (by omega)).mono ?_
      rintro e w2 ⟨y,HY,hy,rfl,hu2⟩
      have hdl:(Lib.decDigits u).length≤1000000000:=pfh u (by omega)
      have hy2:y.size≤1000000000:=by omega
      have h45:(ByteArray.mk #[45]).size=1:=rfl
      clear hdl
      go_wp2_with fail
      go_ret
      refine ⟨_,?_,?_,rfl,hu1.trans hu2⟩
      · show _=_
        rw [pae,HY.out,HIT.out];rfl
      · rw [HIT.out,List.length_append,ByteArray.size_append]
        have:(ByteArray.mk #[45]).size=1:=rfl
        rw [this]
        simp only [List.length_singleton]
        omega
    · have hst:=pmG (n:=n) (by omega)
      have htl:=pkf (n:=n) (by omega)
      obtain ⟨m,hm⟩:∃ m:Int,n.tdiv 10=m:=⟨_,rfl⟩
      obtain ⟨u,huu⟩:∃ u:Nat,n.natAbs % 10=u:=⟨_,rfl⟩
      have hu:-(n.tmod 10)=(u:Int):=by rw [htl.2,huu];omega
      have hu2:u<10:=by omega
      rw [hm,huu] at hst
      have hm3:m=-((n.natAbs / 10:Nat):Int):=by rw [← hm];exact htl.1
      have hmi:pab m:=by unfold pab;omega
      have hmk:m.natAbs≤k:=by omega
      have hm1:-9223372036854775808≤m:=hmi.1
      have hm2:m≤9223372036854775807:=hmi.2
      clear htl hm3
      have HST:=Lib.hid hst
      have hlt:n<0:=by omega
      have h9':n≤-10:=by omega
      have HUU:=Lib.hid huu
      have hml:=itoa_len m hmi
      clear hst h0 h9 huu
      go_enter Tryz.func119,Tryz.ntmps119
      go_wp2_with fail
      refine (HIH.out m w hmk hmi).mono ?_
      rintro e w0 ⟨x,HXX,hx,rfl,hu0⟩
      go_wp2_with fail
      refine (of_int u w0 (by omega)).mono ?_
      rintro e w1 ⟨a,HA,rfl,hu1⟩
      go_wp2_with fail
      refine (pd2 u w1 a HA.out (by omega)).mono ?_
      rintro e w2 ⟨y,HY,hy,rfl,hu2⟩
      have hdl:(Lib.decDigits u).length≤1000000000:=pfh u (by omega)
      have hy2:y.size≤1000000000:=by omega
      have hx2:x.size≤20:=by omega
      clear hdl
      go_wp2_with fail
      go_ret
      refine ⟨_,?_,?_,rfl,hu0.trans (hu1.trans hu2)⟩
      · show _=_
        rw [pae,HY.out,HXX.out,HST.out]
      · rw [HST.out,List.length_append,ByteArray.size_append]
        omega
theorem pb8 (n:Int) (w:World) (hn:pab n):Calls Tryz.prog 119 #[.int .i64 n] w (MkS (Lib.itoa n) w):=phL _ n w (Nat.le_refl _) hn
set_option maxHeartbeats 2000000 in
theorem pi2 (l:List UInt8) (hl:l.length=32) (w:World):Calls Tryz.prog 61 #[.agg (byteVals l).toArray] w (MkS (hexL l) w):=by
 obtain ⟨C,hC⟩:∃ C,C=(byteVals l).toArray:=⟨_,rfl⟩
 rw [← hC]
 have hcz:C.size=32:=by rw [hC];simp [byteVals,hl]
 have HI:Hid ((Tryz.prog.info? 51).map (·.size)=some C.size):=by show _=_;rw [hcz];kernel_rfl
 have HC:=Lib.hid hC
 clear hC
 have hg0:Hid (((w.alloc (.cells C 51)).alloc (.cells (byteVals (List.replicate 64 0)).toArray 168)).heap[w.heap.size]? =some (.cells C 51 (0,0))):=paa (heap_alloc_new w _) ((Upd.refl _ _).alloc _)
 go_enter Tryz.func61,Tryz.ntmps61
 go_wp2_with (first | (refine wpList_load_row rfl 51 _ rfl w.heap.size rfl _ C _ _ hg0.out Tryz.underlying51 rfl HI.out ?_))
 go_loopw [4,5,7] (fun _ _ i wr=>∃ k:Nat,i=.int .i64 (k:Int)∧k≤32∧Hid (AB 168 wr (w.heap.size+1) (hexL (l.take k) ++ List.replicate (64 - 2 * k) 0))∧Hid (Upd [] [] w wr)) (fun _ _ i _=>32 - (intOf i).toNat)
 case atStart =>
  refine ⟨0,rfl,Nat.zero_le _,?_,((Upd.refl _ _).alloc _).alloc _⟩
  have h:=heap_alloc_new (w.alloc (.cells C 51)) (.cells (byteVals (List.replicate 64 0)).toArray 168)
  rw [World.size_alloc] at h
  exact h
 case round =>
  obtain ⟨k,rfl,hk,HA,HU⟩:=hrel
  by_cases hlt:k<32
  · obtain ⟨b,hb⟩:∃ b,l[k]? =some b:=⟨_,List.getElem?_eq_getElem (by omega)⟩
    have hck:C[k]? =some (.int .u8 (b.toNat:Int)):=by rw [HC.out,List.getElem?_toArray];simp [byteVals,hb,pbt]
    have hb256:b.toNat<256:=b.toNat_lt
    have f0:=HA.out.frozen (2 * k)
    have f1:=HA.out.frozen (2 * k+1)
    have i0:(0:Int)≤(k:Int):=by omega
    have i1:(k:Int)<32:=by omega
    have hix:=pfG C k hlt _ hck
    obtain ⟨j,hj⟩:∃ j,j=2 * k:=⟨_,rfl⟩
    obtain ⟨j1,hj1⟩:∃ j1,j1=j+1:=⟨_,rfl⟩
    have e1:IntKind.i64.wrap (2 * (k:Int))=(j:Int):=by rw [IntWalk.i64_in _ (by omega)];omega
    have e2:IntKind.i64.wrap ((j:Int)+1)=(j1:Int):=by rw [IntWalk.i64_in _ (by omega)];omega
    have b0:(0:Int)≤(j:Int):=by omega
    have b1:(j:Int)<64:=by omega
    have b2:(0:Int)≤(j1:Int):=by omega
    have b3:(j1:Int)<64:=by omega
    rw [← hj] at f0 f1
    rw [← hj1] at f1
    obtain ⟨x0,hx0⟩:∃ x0,x0=b.toNat / 16:=⟨_,rfl⟩
    obtain ⟨x1,hx1⟩:∃ x1,x1=b.toNat % 16:=⟨_,rfl⟩
    have v0:(b.toNat:Int) / 16=(x0:Int):=by omega
    have v1:Go.bits .and .u8 (b.toNat:Int) 15=(x1:Int):=by rw [hx1];exact pqK _ hb256
    have y0:=pcK x0 (by omega)
    have y1:=pcK x1 (by omega)
    have c0:wr.cell? ⟨w.heap.size+1,j,none⟩=some (.int .u8 0):=HA.out.cell (b:=0) (by rw [hj,List.getElem?_append_right (by rw [pa6,List.length_take];omega),List.getElem?_replicate,if_pos (by rw [pa6,List.length_take];omega)])
    have c1:wr.cell? ⟨w.heap.size+1,j1,none⟩=some (.int .u8 0):=HA.out.cell (b:=0) (by rw [hj1,hj,List.getElem?_append_right (by rw [pa6,List.length_take];omega),List.getElem?_replicate,if_pos (by rw [pa6,List.length_take];omega)])
    have n0:¬ j=j1:=by omega
    have n1:¬ j1=j:=by omega
    have HJ:=Lib.hid (And.intro hj (And.intro hj1 (And.intro hx0 hx1)))
    have HB:=Lib.hid hb
    clear hj hj1 hx0 hx1 hb
    have HA2:Hid (AB 168 ((wr.setCell ⟨w.heap.size+1,j,none⟩ (.int .u8 ((hexD x0).toNat:Int))).setCell ⟨w.heap.size+1,j1,none⟩ (.int .u8 ((hexD x1).toNat:Int))).drew (w.heap.size+1) (hexL (l.take (k+1)) ++ List.replicate (64 - 2 * (k+1)) 0)):=by
     have h:=((HA.out.set j (hexD x0)).set j1 (hexD x1)).upd (Upd.refl _ _).drew
     obtain ⟨q1,q2,q3,q4⟩:=HJ.out
     rw [q2,q1,q3,q4,pon hl HB.out] at h
     rw [q2,q1,q3,q4]
     exact h
    have HU2:Hid (Upd [] [] w ((wr.setCell ⟨w.heap.size+1,j,none⟩ (.int .u8 ((hexD x0).toNat:Int))).setCell ⟨w.heap.size+1,j1,none⟩ (.int .u8 ((hexD x1).toNat:Int))).drew) :=
     ((HU.out.setNew (p:=⟨w.heap.size+1,j,none⟩) (by show w.heap.size≤w.heap.size+1;omega) _).setNew (p:=⟨w.heap.size+1,j1,none⟩) (by show w.heap.size≤w.heap.size+1;omega) _).drew
    go_wp2_with fail
    go_region_held3 (fun _=>True) (first | trivial | assumption) (fail)
    all_goals
     go_wp2_with fail
     exact ⟨⟨k+1,by go_num,by omega,HA2,HU2⟩,by simp [intOf];omega⟩
  · obtain rfl:k=32:=by omega
    obtain ⟨z,hz⟩:∃ z:ByteArray,bs z=hexL l:=⟨⟨(hexL l).toArray⟩,rfl⟩
    have hcv:=HA.out.text z (by rw [hz,List.take_of_length_le (by omega)];simp) 64
    rw [List.take_of_length_le (by omega)] at hcv
    have hlen:(hexL l ++ List.replicate (64 - 2 * 32) 0).length=64:=by simp [pa6,hl]
    rw [hlen] at hcv
    have HZ:=Lib.hid hz
    clear hz hlt hk HA hlen
    go_wp2_with fail
    go_ret
    refine ⟨z,HZ,?_,rfl,HU.out⟩
    rw [← HZ.out,pac]
    exact Nat.le_refl _
theorem pcL (n:Nat) (hn:n<16) (w:World):(Instr.slice 9 (.string ⟨#[48,49,50,51,52,53,54,55,56,57,97,98,99,100,101,102]⟩) (some (.int .u8 (n:Int))) (some (.int .u8 ((n+1:Nat):Int))) none).run Tryz.prog w=.ok (.string (ByteArray.mk #[hexD n])) w:=by
 have h:n=0∨n=1∨n=2∨n=3∨n=4∨n=5∨n=6∨n=7∨n=8∨n=9∨n=10∨n=11∨n=12∨n=13∨n=14∨n=15:=by omega
 rcases h with rfl | rfl | rfl | rfl | rfl | rfl | rfl | rfl | rfl | rfl | rfl | rfl | rfl | rfl | rfl | rfl
 all_goals (show _=_;first | kernel_rfl | rfl)
set_option maxHeartbeats 2000000 in
theorem phM (l:List UInt8) (hl:l.length=32) (w:World):Calls Tryz.prog 124 #[.agg (byteVals l).toArray] w (MkS (hexL l) w):=by
 obtain ⟨C,hC⟩:∃ C,C=(byteVals l).toArray:=⟨_,rfl⟩
 have hg0:Hid (AB 51 (w.alloc (.cells C 51)) w.heap.size l):=by rw [hC];exact heap_alloc_new _ _
 rw [← hC]
 clear hC
 go_enter Tryz.func124,Tryz.ntmps124
 go_wp2_with fail
 go_loopw [3,4] (fun s i wr=>∃ (k:Nat) (acc:ByteArray),s=.string acc∧i=.int .i64 (k:Int)∧k≤32∧acc.size=2 * k∧Hid (bs acc=hexL (l.take k))∧Hid (AB 51 wr w.heap.size l)∧Hid (Upd [] [] w wr)) (fun _ i _=>32 - (intOf i).toNat)
 case atStart=>exact ⟨0,ByteArray.empty,rfl,rfl,Nat.zero_le _,rfl,rfl,hg0,(Upd.refl _ _).alloc _⟩
 case round =>
  obtain ⟨k,acc,rfl,rfl,hk,has,HS,HA,HU⟩:=hrel
  by_cases hlt:k<32
  · obtain ⟨b,hb⟩:∃ b,l[k]? =some b:=⟨_,List.getElem?_eq_getElem (by omega)⟩
    have hb256:b.toNat<256:=b.toNat_lt
    have cb:=HA.out.cell hb
    obtain ⟨x0,hx0⟩:∃ x0,x0=b.toNat / 16:=⟨_,rfl⟩
    obtain ⟨x1,hx1⟩:∃ x1,x1=b.toNat % 16:=⟨_,rfl⟩
    obtain ⟨m0,hm0⟩:∃ m0,m0=x0+1:=⟨_,rfl⟩
    obtain ⟨m1,hm1⟩:∃ m1,m1=x1+1:=⟨_,rfl⟩
    have v0:(b.toNat:Int).tdiv 16=(x0:Int):=by rw [Int.tdiv_eq_ediv_of_nonneg (by omega)];omega
    have v1:(b.toNat:Int).tmod 16=(x1:Int):=by rw [Int.tmod_eq_emod_of_nonneg (by omega)];omega
    have v2:IntKind.u8.wrap ((x0:Int)+1)=(m0:Int):=by unfold IntKind.wrap;simp [IntKind.bits,IntKind.signed];omega
    have v3:IntKind.u8.wrap ((x1:Int)+1)=(m1:Int):=by unfold IntKind.wrap;simp [IntKind.bits,IntKind.signed];omega
    have v4:IntKind.u8.wrap (x0:Int)=(x0:Int):=by unfold IntKind.wrap;simp [IntKind.bits,IntKind.signed];omega
    have v5:IntKind.u8.wrap (x1:Int)=(x1:Int):=by unfold IntKind.wrap;simp [IntKind.bits,IntKind.signed];omega
    have y0:=pcL x0 (by omega)
    have y1:=pcL x1 (by omega)
    rw [← hm0] at y0
    rw [← hm1] at y1
    have i0:(0:Int)≤(k:Int):=by omega
    have i1:(k:Int)<32:=by omega
    have HST:Hid (bs (acc ++ ByteArray.mk #[hexD x0] ++ ByteArray.mk #[hexD x1])=hexL (l.take (k+1))):=by
     show _=_
     have e1:l.take (k+1)=l.take k ++ [b]:=by rw [List.take_add_one,hb];rfl
     rw [e1,phI,pae,pae,HS.out,← hx0,← hx1]
     simp [bs]
    have hsz:(acc ++ ByteArray.mk #[hexD x0] ++ ByteArray.mk #[hexD x1]).size=2 * (k+1):=by
     rw [ByteArray.size_append,ByteArray.size_append,has]
     show 2 * k+1+1=_
     omega
    have k4:wr.drew.cell? ⟨w.heap.size,k,none⟩=some (.int .u8 (b.toNat:Int)):=cb
    have hz:¬ 9223372036854775807<2 * k+1+1:=by omega
    have hz0:¬ 9223372036854775807<2 * k+1:=by omega
    clear hx0 hx1 hm0 hm1 hb
    go_wp2_with fail
    go_region_held3 (fun wp=>wp.cell? ⟨w.heap.size,k,none⟩=some (.int .u8 (b.toNat:Int))) (first | with_reducible exact k4 | with_reducible assumption) (fail)
    go_wp2_with fail
    exact ⟨⟨k+1,_,rfl,by go_num,by omega,hsz,HST,HA.out.upd (Upd.refl _ _).drew,HU.out.drew⟩,by simp [intOf];omega⟩
  · obtain rfl:k=32:=by omega
    have hs:=HS.out
    rw [List.take_of_length_le (by omega)] at hs
    have HSS:=Lib.hid hs
    clear hs hlt hk
    go_wp2_with fail
    go_ret
    refine ⟨acc,HSS,?_,rfl,HU.out⟩
    rw [← HSS.out,pac]
    exact Nat.le_refl _
def dv (c:UInt8):UInt8:=UInt8.ofNat ((digH c).getD 0)
def pbh:List UInt8→List UInt8
 | []=>[]
 | [a]=>[dv a]
 | a :: b :: r=>UInt8.ofNat (16 * (dv a).toNat+(dv b).toNat) :: pbh r
theorem pbZ:∀ (t r:List UInt8),t.length % 2=0→pbh (t ++ r)=pbh t ++ pbh r
 | [],r,_=>rfl
 | [a],r,h=>by simp at h
 | a :: b :: t,r,h=>by
  rw [List.cons_append,List.cons_append,pbh,pbh,pbZ t r (by simp at h;omega),List.cons_append]
theorem pbl:∀ t:List UInt8,(pbh t).length=(t.length+1) / 2
 | []=>rfl
 | [a]=>by simp [pbh]
 | a :: b :: t=>by rw [pbh,List.length_cons,pbl t,List.length_cons,List.length_cons];omega
def pfi (t:List UInt8):Prop:=∀ c∈t,∃ n,digH c=some n
theorem phN {c:UInt8} {n:Nat} (h:digH c=some n):(dv c).toNat=n∧n<16:=by
 have:=(pff h).1
 unfold dv
 rw [h]
 exact ⟨by show (UInt8.ofNat n).toNat=n;rw [UInt8.toNat_ofNat'];omega,this⟩
theorem pf8:∀ t:List UInt8,t.length % 2=0→pfi t→hexL (pbh t)=t
 | [],_,_=>rfl
 | [a],h,_=>by simp at h
 | a :: b :: t,h,hd=>by
  obtain ⟨n,hn⟩:=hd a (by simp)
  obtain ⟨m,hm⟩:=hd b (by simp)
  obtain ⟨e1,l1⟩:=phN hn
  obtain ⟨e2,l2⟩:=phN hm
  rw [pbh,hexL,pf8 t (by simp at h;omega) (fun c hc=>hd c (by simp [hc])),e1,e2]
  have e:(UInt8.ofNat (16 * n+m)).toNat=16 * n+m:=by rw [UInt8.toNat_ofNat'];omega
  rw [e,show (16 * n+m) / 16=n by omega,show (16 * n+m) % 16=m by omega,(pff hn).2,(pff hm).2]
theorem pdm:∀ l:List UInt8,pfi (hexL l)
 | [],c,h=>by simp [hexL] at h
 | b :: r,c,h=>by
  have hb:b.toNat<256:=b.toNat_lt
  rw [hexL,List.mem_cons,List.mem_cons] at h
  rcases h with rfl | rfl | h
  · exact ⟨_,pck _ (by omega)⟩
  · exact ⟨_,pck _ (by omega)⟩
  · exact pdm r c h
theorem pmH {t:List UInt8} (h:t.length=64) (hd:pfi t):pom t (pbh t) true :=
 ⟨by rw [pbl,h],fun _=>(pf8 t (by omega) hd).symm,fun h=>by cases h⟩
theorem pmI {t:List UInt8} (h:t.length≠64):pom t (List.replicate 32 0) false :=
 ⟨by simp,(fun h=>by cases h),fun _=>⟨rfl,fun h' hl e=>h (by rw [e,pa6,hl])⟩⟩
theorem pmJ {t:List UInt8} {c:UInt8} (hc:c∈t) (h:digH c=none):pom t (List.replicate 32 0) false :=
 ⟨by simp,(fun h=>by cases h),fun _=>⟨rfl,fun h' hl e=>by
  obtain ⟨n,hn⟩:=pdm h' c (by rw [← e];exact hc)
  rw [h] at hn
  cases hn⟩⟩
def pqL (l:List UInt8) (w:World) (e:Ending) (w':World):Prop:=∃ (h:List UInt8) (ok:Bool),Hid (pom l h ok)∧e=.returned (.tuple #[.agg (byteVals h).toArray,.bool ok])∧Upd [] [] w w'
theorem pmK {t:List UInt8} {m:Nat} {c:UInt8} (hc:t[2 * m]? =some c) (hm:2 * m<64):(pbh (t.take (2 * m)) ++ List.replicate (32 - m) 0).set m (dv c)=pbh (t.take (2 * m+1)) ++ List.replicate (32 - (m+1)) 0:=by
 have hl:=(List.getElem?_eq_some_iff.1 hc).1
 have e0:(t.take (2 * m)).length=2 * m:=by rw [List.length_take];omega
 have e1:t.take (2 * m+1)=t.take (2 * m) ++ [c]:=by rw [List.take_add_one,hc];rfl
 have e2:(pbh (t.take (2 * m))).length=m:=by rw [pbl,e0];omega
 rw [e1,pbZ _ _ (by rw [e0];omega),List.set_append_right _ _ (by omega),e2,Nat.sub_self,show 32 - m=(32 - (m+1))+1 by omega,List.replicate_succ,List.set_cons_zero,List.append_assoc]
 rfl
theorem por {t:List UInt8} {m:Nat} {a c:UInt8} (ha:t[2 * m]? =some a) (hc:t[2 * m+1]? =some c):(pbh (t.take (2 * m+1)) ++ List.replicate (32 - (m+1)) 0)[m]? =some (dv a)∧(pbh (t.take (2 * m+1)) ++ List.replicate (32 - (m+1)) 0).set m (UInt8.ofNat (16 * (dv a).toNat+(dv c).toNat))=pbh (t.take (2 * m+1+1)) ++ List.replicate (32 - (m+1)) 0:=by
 have hl:=(List.getElem?_eq_some_iff.1 hc).1
 have e0:(t.take (2 * m)).length=2 * m:=by rw [List.length_take];omega
 have e1:t.take (2 * m+1)=t.take (2 * m) ++ [a]:=by rw [List.take_add_one,ha];rfl
 have e3:t.take (2 * m+1+1)=t.take (2 * m) ++ [a,c]:=by rw [List.take_add_one,hc,e1];simp
 have e2:(pbh (t.take (2 * m))).length=m:=by rw [pbl,e0];omega
 rw [e3,e1,pbZ _ _ (by rw [e0];omega),pbZ _ _ (by rw [e0];omega),List.append_assoc,List.append_assoc]
 refine ⟨?_,?_⟩
 · rw [List.getElem?_append_right (by omega),e2,Nat.sub_self]
   rfl
 · rw [List.set_append_right _ _ (by omega),e2,Nat.sub_self]
   rfl
theorem pi3 (c:UInt8):(Lib.indexByte [48,49,50,51,52,53,54,55,56,57,97,98,99,100,101,102] c=match digH c with | some n=>(n:Int) | none=>-1):=by
 have:∀ n:Fin 256,(Lib.indexByte [48,49,50,51,52,53,54,55,56,57,97,98,99,100,101,102] (UInt8.ofNat n.val)=match digH (UInt8.ofNat n.val) with | some n=>(n:Int) | none=>-1):=by decide +kernel
 have h:=this ⟨c.toNat,c.toNat_lt⟩
 simp only [UInt8.ofNat_toNat] at h
 exact h
theorem peJ:∀ a:Nat,a<16→∀ b:Nat,b<16→Go.bits .or .u8 ((16 * a:Nat):Int) (b:Int)=((16 * a+b:Nat):Int):=by
 have:∀ a:Fin 16,∀ b:Fin 16,Go.bits .or .u8 ((16 * a.val:Nat):Int) (b.val:Int)=((16 * a.val+b.val:Nat):Int):=by decide +kernel
 exact fun a ha b hb=>this ⟨a,ha⟩ ⟨b,hb⟩
theorem results_row_tmp {P:Program} {fn:Func} {p u:Tmp} {ty:TypeId} (h:fn.results=#[.cell p ty,.tmp u]) (tmps:Array Value) (w:World) (g:Nat) (t:TypeId) (cs:Array Value) (fr:Nat × Nat) (d:TypeDesc)
 (hp:tmps.getD p undef=.pointer (some ⟨g,0,none⟩)) (hg:w.heap[g]? =some (.cells cs t fr))
 (hu:P.underlying ty=some d) (hd:d.isRow=true) (hi:(P.info? ty).map (·.size)=some cs.size) :
 (results fn tmps).run P w=.ok (.tuple #[.agg cs,tmps.getD u undef]) w:=by
 have hl:(loadVar ty ⟨g,0,none⟩).run P w=.ok (.agg cs) w:=by
  cases d with
  | struct fs=>exact run_loadVar_row w g t ty cs fr _ hg hu rfl hi
  | array n e=>exact run_loadVar_row w g t ty cs fr _ hg hu rfl hi
  | _=>cases hd
 rw [results_cell_tmp h,hp]
 simp only [asAddr,Sem.run_pure,Result.andThen_ok,hl]
theorem ppj (c:UInt8) (w:World):Calls Tryz.prog 260 #[.string ⟨#[48,49,50,51,52,53,54,55,56,57,97,98,99,100,101,102]⟩,.int .u8 (c.toNat:Int)] w (fun e w'=>e=.returned (.int .i64 (match digH c with | some n=>(n:Int) | none=>-1))∧w'=w):=by
 refine (Tryz.strings_IndexByte _ (c.toNat:Int) w).mono ?_
 rintro e w' ⟨rfl,rfl⟩
 refine ⟨?_,rfl⟩
 have h:=pi3 c
 have e1:((c.toNat:Int)).toNat.toUInt8=c:=by simp
 rw [e1]
 exact congrArg (fun x=>Ending.returned (.int .i64 x)) h
theorem pkh {c:UInt8} {n:Nat} (h:digH c=some n) (w:World):Calls Tryz.prog 260 #[.string ⟨#[48,49,50,51,52,53,54,55,56,57,97,98,99,100,101,102]⟩,.int .u8 (c.toNat:Int)] w (fun e w'=>e=.returned (.int .i64 (n:Int))∧w'=w):=by
 have:=ppj c w
 rw [h] at this
 exact this
theorem pki {c:UInt8} (h:digH c=none) (w:World):Calls Tryz.prog 260 #[.string ⟨#[48,49,50,51,52,53,54,55,56,57,97,98,99,100,101,102]⟩,.int .u8 (c.toNat:Int)] w (fun e w'=>e=.returned (.int .i64 (-1))∧w'=w):=by
 have:=ppj c w
 rw [h] at this
 exact this
def zero32:List UInt8:=List.replicate 32 0
theorem hashInfo {l:List UInt8} (h:l.length=32):(Tryz.prog.info? 51).map (·.size)=some (byteVals l).toArray.size:=by
 rw [show (byteVals l).toArray.size=32 by simp [byteVals,h]]
 kernel_rfl
theorem hashOne (l:List UInt8):(byteVals l).toArray.all (·.oneCell')=true:=by
 rw [Array.all_eq_true_iff_forall_mem]
 intro v hv
 exact paG _ v (by simpa using hv)
theorem AB.setRow {T:TypeId} {w:World} {g:Nat} {c:List UInt8} (h:AB T w g c) (d:List UInt8):AB T (w.setRow g (byteVals d).toArray) g d:=setRow_heap w g _ _ _ _ h
theorem AB.other {T:TypeId} {w:World} {g L j:Nat} {c:List UInt8} (h:AB T w g c) (n:g≠L) (v:Value):AB T (w.setCell ⟨L,j,none⟩ v) g c:=by
 unfold AB at h ⊢
 rw [((Upd.refl [L] w).setCell (p:=⟨L,j,none⟩) (by simp) v).block g (Array.getElem?_eq_some_iff.1 h).1 (by simpa using n)]
 exact h
set_option maxHeartbeats 2000000 in
theorem pi4 (s:ByteArray) (w:World):Calls Tryz.prog 221 #[.string s] w (pqL (bs s) w):=by
 have hz:zero32.length=32:=by simp [zero32]
 have hr1:AB 51 (w.alloc (.cells (byteVals zero32).toArray 51)) w.heap.size zero32:=heap_alloc_new _ _
 by_cases h64:s.size=64
 case neg =>
  have HR1:=Lib.hid hr1
  have HZ:=Lib.hid hz
  have hq:¬ (s.size:Int)=64:=by omega
  clear hr1 hz
  go_enter Tryz.func221,Tryz.ntmps221
  go_wp2_with (first | (refine wpList_store_row rfl 51 _ _ rfl w.heap.size (byteVals zero32).toArray rfl rfl _ _ HR1.out (hashInfo HZ.out) rfl (hashOne _) ?_))
  refine bodyPost_ret (results_row_tmp rfl _ _ w.heap.size _ (byteVals zero32).toArray _ _ rfl (HR1.out.setRow zero32) Tryz.underlying51 rfl (hashInfo HZ.out)) rfl ⟨zero32,false,pmI (by rw [pac];exact h64),rfl,((Upd.refl _ _).alloc _).setRowNew (Nat.le_refl _) _⟩
 case pos =>
  have hr2:AB 51 ((w.alloc (.cells (byteVals zero32).toArray 51)).alloc (.cells (byteVals zero32).toArray 51)) (w.heap.size+1) zero32:=by
   have h:=heap_alloc_new (w.alloc (.cells (byteVals zero32).toArray 51)) (.cells (byteVals zero32).toArray 51)
   rw [World.size_alloc] at h
   exact h
  have HR1:=Lib.hid (hr1.upd ((Upd.refl [] _).alloc (.cells (byteVals zero32).toArray 51)))
  have HR2:=Lib.hid hr2
  have HZ:=Lib.hid hz
  have hq:(s.size:Int)=64:=by omega
  clear hr1 hr2 hz
  go_enter Tryz.func221,Tryz.ntmps221
  go_wp2_with fail
  go_loopw [5,6,13] (fun _ _ i wr=>∃ k:Nat,i=.int .i64 (k:Int)∧k≤64∧Hid (AB 51 wr (w.heap.size+1) (pbh ((bs s).take k) ++ List.replicate (32 - (k+1) / 2) 0))∧Hid (AB 51 wr w.heap.size zero32)∧Hid (pfi ((bs s).take k))∧Hid (Upd [] [] w wr)) (fun _ _ i _=>64 - (intOf i).toNat)
  case atStart=>exact ⟨0,rfl,Nat.zero_le _,HR2.out,HR1.out,fun c h=>by simp at h,((Upd.refl _ _).alloc _).alloc _⟩
  case round =>
   obtain ⟨k,rfl,hk,HA,HR,HD,HU⟩:=hrel
   by_cases hlt:k<64
   · have hks:k<s.size:=by omega
     have hc:=pdl s k hks
     have HC:=Lib.hid hc
     clear hc
     have i0:(0:Int)≤(k:Int):=by omega
     have i1:(k:Int)<64:=by omega
     cases hd:digH s[k] with
     | none =>
      have HN:=Lib.hid (pmJ (t:=bs s) (List.mem_of_getElem? HC.out) hd)
      have hct:=pki hd
      clear hd
      go_wp2_with fail
      refine (hct wr).mono ?_
      rintro e w1 ⟨rfl,rfl⟩
      go_wp2_with (first | (refine wpList_store_row rfl 51 _ _ rfl w.heap.size (byteVals zero32).toArray rfl rfl _ _ HR.out (hashInfo HZ.out) rfl (hashOne _) ?_))
      refine bodyPost_ret (results_row_tmp rfl _ _ w.heap.size _ (byteVals zero32).toArray _ _ rfl (HR.out.setRow zero32) Tryz.underlying51 rfl (hashInfo HZ.out)) rfl ⟨zero32,false,HN.out,rfl,HU.out.setRowNew (Nat.le_refl _) _⟩
     | some n =>
      obtain ⟨hdv,hn16⟩:=phN hd
      have hct:=pkh hd
      have HD2:Hid (pfi ((bs s).take (k+1))):=by
       intro c hcm
       rw [List.take_add_one,HC.out] at hcm
       rcases List.mem_append.1 hcm with h | h
       · exact HD.out c h
       · rw [show c=s[k] by simpa using h]
         exact ⟨n,hd⟩
      have HDG:=Lib.hid hd
      have HDV:=Lib.hid hdv
      clear hd hdv
      by_cases hev:k % 2=0
      · obtain ⟨m,rfl⟩:∃ m,k=2 * m:=⟨k / 2,by omega⟩
        have hA2:=(HA.out.set m (dv s[2 * m])).upd (Upd.refl [] _)
        rw [show (2 * m+1) / 2=m by omega,pmK HC.out (by omega)] at hA2
        have hcell:=HA.out.cell (j:=m) (b:=0) (by rw [show (2 * m+1) / 2=m by omega,List.getElem?_append_right (by rw [pbl,List.length_take,pac];omega),List.getElem?_replicate,if_pos (by rw [pbl,List.length_take,pac];omega)])
        have hfz:=HA.out.frozen m
        have e1:((2 * m:Nat):Int).tdiv 2=(m:Int):=by rw [Int.tdiv_eq_ediv_of_nonneg (by omega)];omega
        have e2:((2 * m:Nat):Int) / 2=(m:Int):=by omega
        have b0:(0:Int)≤(m:Int):=by omega
        have b1:(m:Int)<32:=by omega
        rw [show 32 - (m+1)=32 - (2 * m+1+1) / 2 by omega] at hA2
        have HA2:=Lib.hid hA2
        clear hA2 hev
        go_wp2_with fail
        refine (hct wr).mono ?_
        rintro e w1 ⟨rfl,rfl⟩
        have vb:Go.bits .or .u8 0 (n:Int)=((dv s[2 * m]).toNat:Int):=by
         have h:=peJ 0 (by omega) n hn16
         rw [HDV.out]
         simpa using h
        go_wp2_with fail
        refine ⟨⟨2 * m+1,by go_num,by omega,HA2.out,HR.out.other (by omega) _,HD2.out,HU.out.setNew (p:=⟨_,_,none⟩) (by show w.heap.size≤w.heap.size+1;omega) _⟩,by simp [intOf];omega⟩
      · obtain ⟨m,rfl⟩:∃ m,k=2 * m+1:=⟨k / 2,by omega⟩
        have ha0:=pdl s (2 * m) (by omega)
        obtain ⟨f1,f2⟩:=por ha0 HC.out
        obtain ⟨o,ho⟩:∃ o,digH s[2 * m]=some o:=HD.out s[2 * m] (by
         refine List.mem_of_getElem? (i:=2 * m) ?_
         rw [List.getElem?_take_of_lt (by omega)]
         exact ha0)
        obtain ⟨hov,ho16⟩:=phN ho
        have hA:=HA.out
        rw [show (2 * m+1+1) / 2=m+1 by omega] at hA
        have hcell:=hA.cell f1
        rw [hov] at hcell
        have hA2:=hA.set m (UInt8.ofNat (16 * (dv s[2 * m]).toNat+(dv s[2 * m+1]).toNat))
        rw [f2,hov,HDV.out] at hA2
        have hfz:=HA.out.frozen m
        have e1:((2 * m+1:Nat):Int).tdiv 2=(m:Int):=by rw [Int.tdiv_eq_ediv_of_nonneg (by omega)];omega
        have e2:((2 * m+1:Nat):Int) / 2=(m:Int):=by omega
        have e3:(2 * (m:Int)+1) / 2=(m:Int):=by omega
        have b0:(0:Int)≤(m:Int):=by omega
        have b1:(m:Int)<32:=by omega
        rw [show 32 - (m+1)=32 - (2 * m+1+1+1) / 2 by omega] at hA2
        have HA2:=Lib.hid hA2
        have HHA:=Lib.hid hA
        clear hA2 hA hev f1 f2 ha0 ho hov HA
        go_wp2_with fail
        refine (hct wr).mono ?_
        rintro e w1 ⟨rfl,rfl⟩
        have vb:Go.bits .or .u8 ((o:Int) * 16) (n:Int)=((UInt8.ofNat (16 * o+n)).toNat:Int):=by
         have h:=peJ o ho16 n hn16
         rw [show ((16 * o:Nat):Int)=(o:Int) * 16 by omega] at h
         rw [h,UInt8.toNat_ofNat',Nat.mod_eq_of_lt (by omega)]
        go_wp2_with fail
        refine ⟨⟨2 * m+1+1,by go_num,by omega,HA2.out,HR.out.other (by omega) _,HD2.out,HU.out.setNew (p:=⟨_,_,none⟩) (by show w.heap.size≤w.heap.size+1;omega) _⟩,by simp [intOf];omega⟩
   · obtain rfl:k=64:=by omega
     obtain ⟨H,hH⟩:∃ H,H=pbh (bs s):=⟨_,rfl⟩
     have hA:=HA.out
     have hD:=HD.out
     have hsl:(bs s).length=64:=by rw [pac];exact h64
     rw [List.take_of_length_le (by omega)] at hA hD
     have hy:=pmH hsl hD
     rw [show 32 - (64+1) / 2=0 by omega,List.replicate_zero,List.append_nil,← hH] at hA
     rw [← hH] at hy
     have HL:=Lib.hid hy.1
     have HY:=Lib.hid hy
     have HA2:=Lib.hid hA
     clear hA hD hy hH HA hlt hk
     go_wp2_with (first | (refine wpList_load_row rfl 51 _ rfl (w.heap.size+1) rfl _ (byteVals H).toArray _ _ HA2.out Tryz.underlying51 rfl (hashInfo HL.out) ?_) | (refine wpList_store_row rfl 51 _ _ rfl w.heap.size (byteVals H).toArray rfl rfl _ _ HR.out (hashInfo HL.out) (by simp [byteVals,HL.out,HZ.out]) (hashOne _) ?_))
     refine bodyPost_ret (results_row_tmp rfl _ _ w.heap.size _ (byteVals H).toArray _ _ rfl (HR.out.setRow H) Tryz.underlying51 rfl (hashInfo HL.out)) rfl ⟨H,true,HY.out,rfl,HU.out.setRowNew (Nat.le_refl _) _⟩
end Go.Proofs.YtheobkejohifaaaGreatDoor
