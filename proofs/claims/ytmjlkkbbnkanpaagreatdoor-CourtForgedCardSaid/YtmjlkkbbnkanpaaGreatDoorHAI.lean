/- equal.scalar, sortesref06.Exponent, Element and what follows. -/
import Derived.Test.YtmjlkkbbnkanpaaGreatDoorHAH
import Derived.Test.YtmjlkkbbnkanpaaGreatDoorHAD
import Derived.Test.YtmjlkkbbnkanpaaGreatDoorHAF
import Derived.Test.YtmjlkkbbnkanpaaGreatDoorHAG
import Derived.Test.YtmjlkkbbnkanpaaGreatDoorHAC
namespace Go.Proofs.YtmjlkkbbnkanpaaGreatDoor
open Go.RowKit
set_option maxRecDepth 100000
def IntsIn (w:World) (g:Nat) (xs:List Int):Prop:=g<w.heap.size∧(∀ (j:Nat) x,xs[j]? =some x→w.cell? ⟨g,j,none⟩=some (.int .i64 x))∧∀ x∈xs,i64in x
theorem IntsIn.upd {w w':World} {g:Nat} {xs:List Int} (h:IntsIn w g xs) (u:Upd [] [] w w'):IntsIn w' g xs :=
 ⟨Nat.lt_of_lt_of_le h.1 u.size,fun j x hx=>(u.cell h.1 (by simp)).trans (h.2.1 j x hx),h.2.2⟩
theorem exponent6_any (x:Int) (w:World) (_hx:-9223372036854775808≤x∧x≤9223372036854775807) :
 Calls Tryz.prog 135 #[.int .i64 x] w (fun e w'=>∃ r:Nat,Hid (r=expN x)∧r<1152921504606845789∧e=.returned (.int .i64 (r:Int))∧w=w'):=by
 have e1:=Int.tmod_eq_emod (a:=x) (b:=1152921504606845789)
 have e2:=expN_cast x
 have H1:=Lib.hid (And.intro e1 e2)
 clear e1 e2
 have hlt:=expN_lt x
 go_enter Tryz.func135,Tryz.ntmps135
 go_wp2_with fail
 all_goals go_ret
 all_goals refine ⟨expN x,rfl,hlt,ret_i64 ?_,rfl⟩
 all_goals have h:=H1.out
 all_goals obtain ⟨h1,h2⟩:=h
 all_goals first | simp only [wrap64] | skip
 all_goals split at h1 <;> omega
theorem joinL_len (ls:List (List UInt8)) (h:∀ l∈ls,l.length≤20):(Lib.join ls [47]).length≤21 * ls.length:=by
 unfold Lib.join
 induction ls with
 | nil=>simp
 | cons x r ih =>
  have hx:=h x (by simp)
  have ih:=ih (fun l hl=>h l (by simp [hl]))
  cases r with
  | nil=>simp;omega
  | cons y r =>
   simp only [List.intercalate_cons_cons,List.length_append,List.length_cons,List.length_nil] at ih ⊢
   omega
theorem row_upd {w w':World} {g:Nat} {o:Obj} (h:w.heap[g]? =some o) (u:Upd [] [] w w'):w'.heap[g]? =some o:=by
 rw [u.block _ (Array.getElem?_eq_some_iff.1 h).1 (by simp)];exact h
theorem ipE {n:Nat} (h:n<2305843009213691579):i64in (n:Int):=⟨by omega,by omega⟩
theorem iqE {n:Nat} (h:n<1152921504606845789):i64in (n:Int):=⟨by omega,by omega⟩
structure TwoAt (w:World) (gx gk:Nat) (x k:Nat):Prop where
 hx:w.heap[gx]? =some (.cells #[.int .i64 (x:Int)] 3 (0,0))
 hk:w.heap[gk]? =some (.cells #[.int .i64 (k:Int)] 3 (0,0))
structure ProofAt (w wp:World) (c z:Int):Prop where
 up:Upd [] [] w wp
 row:wp.heap[w.heap.size]? =some (.cells #[.int .i64 c,.int .i64 z] 44 (0,0))
theorem ProofAt.start (w:World) (r s:Int):ProofAt w (w.alloc (.cells #[.int .i64 r,.int .i64 s] 44)) r s:=⟨(Upd.refl _ _).alloc _,heap_alloc_new _ _⟩
theorem ProofAt.upd {w wp wq:World} {r s:Int} (h:ProofAt w wp r s) (u:Upd [] [] wp wq):ProofAt w wq r s:=⟨h.up.trans u,row_upd h.row u⟩
theorem ProofAt.cells {w wp:World} {r s:Int} (h:ProofAt w wp r s):wp.cell? ⟨w.heap.size,0,none⟩=some (.int .i64 r)∧wp.cell? ⟨w.heap.size,1,none⟩=some (.int .i64 s) :=
 ⟨by rw [cell_of_row _ _ _ _ _ _ h.row];rfl,by rw [cell_of_row _ _ _ _ _ _ h.row];rfl⟩
theorem ProofAt.free {w wp:World} {r s:Int} (h:ProofAt w wp r s):wp.frozen? ⟨w.heap.size,0,none⟩=false∧wp.frozen? ⟨w.heap.size,1,none⟩=false :=
 ⟨frozen_of_row _ _ _ _ _ h.row,frozen_of_row _ _ _ _ _ h.row⟩
theorem dec_short (u:Nat) (h:u≤9223372036854775808):(Lib.decDigits u).length≤1000000000:=Nat.le_trans (dec_le19 h) (by omega)
theorem be_short (u:Nat) (h:u<9223372036854775808):(be u).length≤8:=be_len_le 8 u (Nat.lt_trans h (by decide))
theorem text_of (u:Nat) (w:World) (a:ByteArray) (ha:bs a=be u) (h:u<9223372036854775808):Calls Tryz.prog 61 #[.string a] w (MkS (Lib.decDigits u) w) :=
 text_big a u w (by rw [ha,natB_be]) (by rw [size_of_be ha];exact Nat.le_trans (be_short u h) (by omega)) (dec_short u (by omega))
theorem tdiv_low {n:Int} (h:n≤0):n.tdiv 10=-((n.natAbs / 10:Nat):Int)∧n.tmod 10=-((n.natAbs % 10:Nat):Int):=by
 obtain ⟨u,hu⟩:∃ u:Nat,n=-(u:Int):=⟨n.natAbs,by omega⟩
 subst hu
 have e:(-(u:Int)).natAbs=u:=by omega
 rw [Int.neg_tdiv,Int.neg_tmod,Int.tdiv_eq_ediv_of_nonneg (by omega),Int.tmod_eq_emod_of_nonneg (by omega),e]
 omega
theorem itoa_step {n:Int} (h:n≤-10):Lib.itoa n=Lib.itoa (n.tdiv 10) ++ Lib.decDigits (n.natAbs % 10):=by
 have h1:n.tdiv 10<0:=by rw [(tdiv_low (by omega)).1];omega
 have h2:(n.tdiv 10).natAbs=n.natAbs / 10:=by rw [Int.natAbs_tdiv];rfl
 unfold Lib.itoa
 rw [if_pos (by omega),if_pos h1,h2,Lib.decDigits,dif_neg (by omega),Lib.decDigits_one (Nat.mod_lt _ (by omega))]
 rfl
theorem itoa_of_neg {n:Int} (h:n<0):Lib.itoa n=[45] ++ Lib.decDigits n.natAbs:=by
 unfold Lib.itoa
 rw [if_pos h]
 rfl
theorem itoa_of_nat (u:Nat):Lib.itoa (u:Int)=Lib.decDigits u:=by
 unfold Lib.itoa
 rw [if_neg (by omega),Int.toNat_natCast]
set_option maxHeartbeats 1000000 in
theorem decimal6_aux:∀ (k:Nat) (n:Int) (w:World),n.natAbs≤k→i64in n→Calls Tryz.prog 180 #[.int .i64 n] w (MkS (Lib.itoa n) w):=by
 intro k
 induction k with
 | zero =>
  intro n w hk hn
  obtain rfl:n=0:=by omega
  go_enter Tryz.func180,Tryz.ntmps180
  go_wp2_with fail
  refine (of_int 0 w (by omega)).mono ?_
  rintro e w1 ⟨a,HA,rfl,hu1⟩
  go_wp2_with fail
  refine (text_of 0 w1 a HA.out (by omega)).mono ?_
  rintro e w2 ⟨y,HY,hy,rfl,hu2⟩
  go_wp2_with fail
  go_ret
  exact ⟨y,HY.out,hy,rfl,hu1.trans hu2⟩
 | succ k ih =>
  intro n w hk hn
  have HIH:=Lib.hid ih
  clear ih
  have hn1:=hn.1
  have hn2:=hn.2
  by_cases h0:0≤n
  · obtain ⟨u,rfl⟩:=Int.eq_ofNat_of_zero_le h0
    go_enter Tryz.func180,Tryz.ntmps180
    go_wp2_with fail
    refine (of_int u w (by omega)).mono ?_
    rintro e w1 ⟨a,HA,rfl,hu1⟩
    go_wp2_with fail
    refine (text_of u w1 a HA.out (by omega)).mono ?_
    rintro e w2 ⟨y,HY,hy,rfl,hu2⟩
    go_wp2_with fail
    go_ret
    refine ⟨y,?_,?_,rfl,hu1.trans hu2⟩
    · show _=_
      rw [HY.out];exact (itoa_of_nat u).symm
    · have:=itoa_of_nat u
      show _≤(Lib.itoa (u:Int)).length
      rw [this];exact hy
  · by_cases h9:-10<n
    · obtain ⟨u,hu⟩:∃ u:Nat,-n=(u:Int):=⟨n.natAbs,by omega⟩
      have hu2:u<10:=by omega
      have hit:Lib.itoa n=[45] ++ Lib.decDigits u:=by
       have:n.natAbs=u:=by omega
       rw [itoa_of_neg (by omega),this]
      have HIT:=Lib.hid hit
      have hlt:n<0:=by omega
      clear hit h0
      go_enter Tryz.func180,Tryz.ntmps180
      go_wp2_with fail
      refine (of_int u w (by omega)).mono ?_
      rintro e w1 ⟨a,HA,rfl,hu1⟩
      go_wp2_with fail
      refine (text_of u w1 a HA.out (by omega)).mono ?_
      rintro e w2 ⟨y,HY,hy,rfl,hu2⟩
      have hdl:(Lib.decDigits u).length≤1000000000:=dec_short u (by omega)
      have hy2:y.size≤1000000000:=by omega
      have h45:(ByteArray.mk #[45]).size=1:=rfl
      clear hdl
      go_wp2_with fail
      go_ret
      refine ⟨_,?_,?_,rfl,hu1.trans hu2⟩
      · show _=_
        rw [bs_append,HY.out,HIT.out];rfl
      · rw [HIT.out,List.length_append,ByteArray.size_append]
        have:(ByteArray.mk #[45]).size=1:=rfl
        rw [this]
        simp only [List.length_singleton]
        omega
    · have hst:=itoa_step (n:=n) (by omega)
      have htl:=tdiv_low (n:=n) (by omega)
      obtain ⟨m,hm⟩:∃ m:Int,n.tdiv 10=m:=⟨_,rfl⟩
      obtain ⟨u,huu⟩:∃ u:Nat,n.natAbs % 10=u:=⟨_,rfl⟩
      have hu:-(n.tmod 10)=(u:Int):=by rw [htl.2,huu];omega
      have hu2:u<10:=by omega
      rw [hm,huu] at hst
      have hm3:m=-((n.natAbs / 10:Nat):Int):=by rw [← hm];exact htl.1
      have hmi:i64in m:=by unfold i64in;omega
      have hmk:m.natAbs≤k:=by omega
      have hm1:-9223372036854775808≤m:=hmi.1
      have hm2:m≤9223372036854775807:=hmi.2
      clear htl hm3
      have HST:=Lib.hid hst
      have hlt:n<0:=by omega
      have h9':n≤-10:=by omega
      have HUU:=Lib.hid huu
      have hml:=itoa_len m hmi
      clear hst h0 h9 huu
      go_enter Tryz.func180,Tryz.ntmps180
      go_wp2_with fail
      refine (HIH.out m w hmk hmi).mono ?_
      rintro e w0 ⟨x,HXX,hx,rfl,hu0⟩
      go_wp2_with fail
      refine (of_int u w0 (by omega)).mono ?_
      rintro e w1 ⟨a,HA,rfl,hu1⟩
      go_wp2_with fail
      refine (text_of u w1 a HA.out (by omega)).mono ?_
      rintro e w2 ⟨y,HY,hy,rfl,hu2⟩
      have hdl:(Lib.decDigits u).length≤1000000000:=dec_short u (by omega)
      have hy2:y.size≤1000000000:=by omega
      have hx2:x.size≤20:=by omega
      clear hdl
      go_wp2_with fail
      go_ret
      refine ⟨_,?_,?_,rfl,hu0.trans (hu1.trans hu2)⟩
      · show _=_
        rw [bs_append,HY.out,HXX.out,HST.out]
      · rw [HST.out,List.length_append,ByteArray.size_append]
        omega
theorem decimal6_any (n:Int) (w:World) (hn:i64in n):Calls Tryz.prog 180 #[.int .i64 n] w (MkS (Lib.itoa n) w):=decimal6_aux _ n w (Nat.le_refl _) hn
def MkPrf (c z:Nat) (w:World) (e:Ending) (w':World):Prop:=∃ a b:Nat,Hid (a=c)∧Hid (b=z)∧a<1152921504606845789∧b<1152921504606845789∧e=.returned (.agg #[.int .i64 (a:Int),.int .i64 (b:Int)])∧Upd [] [] w w'
theorem ints3 (w:World) (a b c:Int) (t:TypeId) (ha:i64in a) (hb:i64in b) (hc:i64in c):IntsIn (w.alloc (.cells #[.int .i64 a,.int .i64 b,.int .i64 c] t)) w.heap.size [a,b,c]:=by
 refine ⟨by simp,fun j x h=>?_,fun x hx=>?_⟩
 · rw [cell_of_row _ w.heap.size _ #[.int .i64 a,.int .i64 b,.int .i64 c] t (0,0) (heap_alloc_new _ _)]
   match j,h with
   | 0,h=>simp at h;subst h;rfl
   | 1,h=>simp at h;subst h;rfl
   | 2,h=>simp at h;subst h;rfl
   | n+3,h=>simp at h
 · simp at hx
   rcases hx with rfl | rfl | rfl <;> assumption
theorem ints6 (w:World) (a b c d e f:Int) (t:TypeId) (ha:i64in a) (hb:i64in b) (hc:i64in c) (hd:i64in d) (he:i64in e) (hf:i64in f):IntsIn (w.alloc (.cells #[.int .i64 a,.int .i64 b,.int .i64 c,.int .i64 d,.int .i64 e,.int .i64 f] t)) w.heap.size [a,b,c,d,e,f]:=by
 refine ⟨by simp,fun j x h=>?_,fun x hx=>?_⟩
 · rw [cell_of_row _ w.heap.size _ #[.int .i64 a,.int .i64 b,.int .i64 c,.int .i64 d,.int .i64 e,.int .i64 f] t (0,0) (heap_alloc_new _ _)]
   match j,h with
   | 0,h=>simp at h;subst h;rfl
   | 1,h=>simp at h;subst h;rfl
   | 2,h=>simp at h;subst h;rfl
   | 3,h=>simp at h;subst h;rfl
   | 4,h=>simp at h;subst h;rfl
   | 5,h=>simp at h;subst h;rfl
   | n+6,h=>simp at h
 · simp at hx
   rcases hx with rfl | rfl | rfl | rfl | rfl | rfl <;> assumption
theorem rpow_at (a n m:Int) (N:Nat) (hN:n=(N:Int)) (w:World) (ha:-9223372036854775808≤a∧a≤9223372036854775807) (hn:n≤9223372036854775807) (hm:1≤m∧m≤9223372036854775807) :
 Calls Tryz.prog 40 #[.int .i64 a,.int .i64 n,.int .i64 m] w (RetZ .i64 m (powZ a N m) w):=by
 subst hN
 exact rPow_any a m N w ha (by omega) hm
theorem rmember_any (a:Int) (w:World) (ha:-9223372036854775808≤a∧a≤9223372036854775807) :
 Calls Tryz.prog 38 #[.int .i64 a] w (RetB (memB a) w):=by
 by_cases h1:1≤a
 · by_cases h2:a<2305843009213691579
   · have HM:=Lib.hid (memB_mid h1 (by omega))
     go_enter Tryz.func38,Tryz.ntmps38
     go_wp2_with (go_at_call 40;((with_reducible refine (rpow_at a _ _ 1152921504606845789 qCast _ (by omega) (by omega) (by omega)).mono ?_);rintro e w' ⟨r,HR,r0,r1,rfl,rfl⟩))
     go_ret
     refine ⟨_,?_,rfl,rfl⟩
     show _=_
     rw [HM.out,← HR.out]
     rfl
   · have h3:2305843009213691579≤a:=by omega
     have HM:=Lib.hid (memB_high (a:=a) (by omega))
     clear h2
     go_enter Tryz.func38,Tryz.ntmps38
     go_wp2_with fail
     go_ret
     exact ⟨_,HM.out.symm,rfl,rfl⟩
 · have h3:a<1:=by omega
   have HM:=Lib.hid (memB_low h3)
   clear h1
   go_enter Tryz.func38,Tryz.ntmps38
   go_wp2_with fail
   go_ret
   exact ⟨_,HM.out.symm,rfl,rfl⟩
theorem rmember_is (a:Int) (b:Bool) (w:World) (ha:i64in a) (h:memB a=b):Calls Tryz.prog 38 #[.int .i64 a] w (fun e w'=>e=.returned (.bool b)∧w=w'):=by
 refine (rmember_any a w ha).mono ?_
 rintro e w' ⟨r,HR,rfl,rfl⟩
 exact ⟨by rw [HR.out,h],rfl⟩
theorem rMulP_n (a b:Nat) (w:World) (ha:a≤9223372036854775807) (hb:b≤9223372036854775807) :
 Calls Tryz.prog 41 #[.int .i64 (a:Int),.int .i64 (b:Int),.int .i64 2305843009213691579] w (fun e w'=>∃ r:Nat,Hid (r=a * b % Pn)∧r<2305843009213691579∧e=.returned (.int .i64 (r:Int))∧w=w'):=by
 refine (rMul_any a b 2305843009213691579 w (by omega) (by omega) (by omega)).mono ?_
 rintro e w1 ⟨r,HR,r0,r1,rfl,rfl⟩
 obtain ⟨m,rfl⟩:∃ m:Nat,r=(m:Int):=⟨r.toNat,by omega⟩
 refine ⟨m,?_,by omega,rfl,rfl⟩
 show _=_
 have h:((m:Nat):Int)=((a * b % Pn:Nat):Int):=by rw [HR.out];simp [Pn]
 omega
theorem join_snoc (l:List (List UInt8)) (x:List UInt8) (h:l≠[]):Lib.join (l ++ [x]) [47]=Lib.join l [47] ++ [47] ++ x:=by
 cases l with
 | nil=>exact absurd rfl h
 | cons y r =>
  rw [List.cons_append,Lib.join_cons,Lib.join_cons]
  simp [Lib.joinTail,List.append_assoc]
theorem joined_len {xs:List Int} (h:∀ x∈xs,i64in x) (k:Nat):(Lib.join ((xs.take k).map Lib.itoa) [47]).length≤21 * xs.length:=by
 have h1:=joinL_len ((xs.take k).map Lib.itoa) (by
  intro z hz
  simp only [List.mem_map] at hz
  obtain ⟨v,hv,rfl⟩:=hz
  exact itoa_len v (h v (List.mem_of_mem_take hv)))
 rw [List.length_map,List.length_take] at h1
 omega
set_option maxHeartbeats 1000000 in
theorem joined_any (xs:List Int) (g c n:Nat) (w:World) (hx:IntsIn w g xs) (hn:n=xs.length) (hl:n≤1000) :
 Calls Tryz.prog 134 #[.slice (some ⟨g,0,none⟩) n c] w (MkS (Lib.join (xs.map Lib.itoa) [47]) w):=by
 have HX:=Lib.hid hx
 have HN:=Lib.hid hn
 clear hx hn
 go_enter Tryz.func134,Tryz.ntmps134
 go_wp2_with fail
 go_loopw [3,4] (fun s i wr=>∃ (k:Nat) (t:ByteArray),i=.int .i64 (k:Int)∧s=.string t∧k≤n∧t.size≤21000∧Hid (bs t=Lib.join ((xs.take k).map Lib.itoa) [47])∧Hid (Upd [] [] w wr)) (fun _ i _=>n - (intOf i).toNat)
 case atStart=>exact ⟨0,⟨#[]⟩,rfl,rfl,Nat.zero_le _,by decide,rfl,Upd.refl _ _⟩
 case round =>
  obtain ⟨k,t,rfl,rfl,hk,ht,HT,HUP⟩:=hrel
  by_cases hlt:k<n
  · have hkl:k<xs.length:=by have:=HN.out;omega
    obtain ⟨x,hx⟩:∃ x,xs[k]? =some x:=⟨_,List.getElem?_eq_getElem hkl⟩
    have hi:=HX.out.upd HUP.out
    have q1:=hi.2.1 k x hx
    have hxi:i64in x:=hi.2.2 x (List.mem_of_getElem? hx)
    have htk:xs.take (k+1)=xs.take k ++ [x]:=by rw [List.take_add_one,hx];rfl
    have hlen:(Lib.join ((xs.take (k+1)).map Lib.itoa) [47]).length≤21000:=by
     have:=joined_len HX.out.2.2 (k+1)
     have:=HN.out
     omega
    have HTK:=Lib.hid htk
    have HLEN:=Lib.hid hlen
    have hil:=itoa_len x hxi
    have h47:(ByteArray.mk #[47]).size=1:=rfl
    clear hx htk hi hlen hkl
    by_cases h0:k=0
    · subst h0
      have hte:t=⟨#[]⟩:=bs_inj (by rw [HT.out];rfl)
      subst hte
      go_wp2_with fail
      refine (decimal6_any x wr hxi).mono ?_
      rintro e w2 ⟨y,HY,hy,rfl,hu2⟩
      have hy2:y.size≤20:=by omega
      go_wp2_with fail
      refine ⟨⟨1,y,rfl,by congr 1,by omega,by omega,?_,HUP.out.trans hu2⟩,by simp [intOf];omega⟩
      show _=_
      rw [HTK.out,HY.out]
      simp [Lib.join_one]
    · have hk0:0<k:=by omega
      have HK0:=Lib.hid h0
      clear h0
      go_wp2_with fail
      refine (decimal6_any x wr hxi).mono ?_
      rintro e w2 ⟨y,HY,hy,rfl,hu2⟩
      have hy2:y.size≤20:=by omega
      have hfin:bs (t ++ ⟨#[47]⟩ ++ y)=Lib.join ((xs.take (k+1)).map Lib.itoa) [47]:=by
       have hne:(xs.take k).map Lib.itoa≠[]:=by
        intro e
        have h1:=congrArg List.length e
        rw [List.length_map,List.length_take] at h1
        simp only [List.length_nil] at h1
        have h2:=HN.out
        have h3:=HK0.out
        omega
       rw [bs_append,bs_append,HT.out,HY.out,HTK.out,List.map_append,List.map_cons,List.map_nil,join_snoc _ _ hne]
       rfl
      have HF:=Lib.hid hfin
      clear hfin
      go_wp2_with fail
      exact ⟨⟨k+1,_,by go_num,rfl,by omega,by rw [bs_size HF.out];exact HLEN.out,HF.out,HUP.out.trans hu2⟩,by simp [intOf];omega⟩
  · obtain rfl:k=n:=by omega
    have hfin:bs t=Lib.join (xs.map Lib.itoa) [47]:=by rw [HT.out,HN.out,List.take_length]
    have HF:=Lib.hid hfin
    clear hfin
    go_wp2_with fail
    go_ret
    exact ⟨t,HF.out,Nat.le_of_eq (bs_size HF.out),rfl,HUP.out⟩
theorem rchal_any (xs:List Int) (g c n:Nat) (w:World) (hx:IntsIn w g xs) (hn:n=xs.length) (hl:n≤1000) :
 Calls Tryz.prog 181 #[.slice (some ⟨g,0,none⟩) n c] w (MkN 1152921504606845789 (eqScal wEqual xs) w):=by
 have hln:=joined_len hx.2.2 xs.length
 rw [List.take_length,← hn] at hln
 have HX:=Lib.hid hx
 have HN:=Lib.hid hn
 have h6:(ByteArray.mk #[101,113,117,97,108,47]).size=6:=rfl
 clear hx hn
 go_enter Tryz.func181,Tryz.ntmps181
 go_wp2_with fail
 refine (joined_any xs g c n w HX.out HN.out hl).mono ?_
 rintro e w1 ⟨y,HY,hy,rfl,hu1⟩
 have hy2:y.size≤21000:=by omega
 go_wp2_with fail
 refine (rScalar_any _ w1 (by rw [ByteArray.size_append,h6];omega)).mono ?_
 rintro e w2 ⟨r,HR,hr,rfl,hu2⟩
 go_wp2_with fail
 go_ret
 refine ⟨r,?_,hr,rfl,hu1.trans hu2⟩
 show _=_
 rw [HR.out,bs_append,HY.out,eqScal,eqText]
 rfl
theorem power6_any (a n:Nat) (w:World) (ha:a≤9223372036854775807) (hn:n≤9223372036854775807) :
 Calls Tryz.prog 182 #[.int .i64 (a:Int),.int .i64 (n:Int)] w (fun e w'=>∃ r:Nat,Hid (r=pP a n)∧r<2305843009213691579∧e=.returned (.int .i64 (r:Int))∧w=w'):=by
 go_enter Tryz.func182,Tryz.ntmps182
 go_wp2_with fail
 refine (rPow_n a n _ w ha hn rfl).mono ?_
 rintro e w1 ⟨r,HR,hr,rfl,rfl⟩
 go_wp2_with fail
 go_ret
 exact ⟨r,HR.out,hr,rfl,rfl⟩
theorem rMulQ_n (a b:Nat) (w:World) (ha:a≤9223372036854775807) (hb:b≤9223372036854775807) :
 Calls Tryz.prog 41 #[.int .i64 (a:Int),.int .i64 (b:Int),.int .i64 1152921504606845789] w (fun e w'=>∃ r:Nat,Hid (r=a * b % Qn)∧r<1152921504606845789∧e=.returned (.int .i64 (r:Int))∧w=w'):=by
 refine (rMul_any a b 1152921504606845789 w (by omega) (by omega) (by omega)).mono ?_
 rintro e w1 ⟨r,HR,r0,r1,rfl,rfl⟩
 obtain ⟨m,rfl⟩:∃ m:Nat,r=(m:Int):=⟨r.toNat,by omega⟩
 refine ⟨m,?_,by omega,rfl,rfl⟩
 show _=_
 have h:((m:Nat):Int)=((a * b % Qn:Nat):Int):=by rw [HR.out];simp [Qn]
 omega
theorem rAddQ_n (a b:Nat) (w:World) (ha:a≤9223372036854775807) (hb:b≤9223372036854775807) :
 Calls Tryz.prog 59 #[.int .i64 (a:Int),.int .i64 (b:Int),.int .i64 1152921504606845789] w (fun e w'=>∃ r:Nat,Hid (r=(a+b) % Qn)∧r<1152921504606845789∧e=.returned (.int .i64 (r:Int))∧w=w'):=by
 refine (rAdd_any a b 1152921504606845789 w (by omega) (by omega) (by omega)).mono ?_
 rintro e w1 ⟨r,HR,r0,r1,rfl,rfl⟩
 obtain ⟨m,rfl⟩:∃ m:Nat,r=(m:Int):=⟨r.toNat,by omega⟩
 refine ⟨m,?_,by omega,rfl,rfl⟩
 show _=_
 have h:((m:Nat):Int)=(((a+b) % Qn:Nat):Int):=by rw [HR.out];simp [Qn]
 omega
set_option maxHeartbeats 2000000 in
theorem proveWith_any (x:Int) (g h k:Nat) (w:World) (hx:-9223372036854775808≤x∧x≤9223372036854775807) (hg:g<2305843009213691579) (hh:h<2305843009213691579) (hk:k<1152921504606845789) :
 Calls Tryz.prog 136 #[.int .i64 x,.int .i64 (g:Int),.int .i64 (h:Int),.int .i64 (k:Int)] w (MkPrf (cWith (expN x) g h k) (zWith (expN x) g h k) w):=by
 have h0:=ProofAt.start w 0 0
 go_enter Tryz.func136,Tryz.ntmps136
 go_wp2_with fail
 refine (exponent6_any x _ hx).mono ?_
 rintro e w1 ⟨X,HX,hX,rfl,rfl⟩
 go_wp2_with fail
 refine (power6_any g X _ (by omega) (by omega)).mono ?_
 rintro e w1 ⟨a,HA,ha,rfl,rfl⟩
 go_wp2_with fail
 refine (power6_any h X _ (by omega) (by omega)).mono ?_
 rintro e w1 ⟨b,HB,hb,rfl,rfl⟩
 go_wp2_with fail
 refine (power6_any g k _ (by omega) (by omega)).mono ?_
 rintro e w1 ⟨r,HR,hr,rfl,rfl⟩
 go_wp2_with fail
 refine (power6_any h k _ (by omega) (by omega)).mono ?_
 rintro e w1 ⟨s,HS,hs,rfl,rfl⟩
 have hi:=ints6 (w.alloc (.cells #[.int .i64 0,.int .i64 0] 44)) g a h b r s 3 (ipE hg) (ipE ha) (ipE hh) (ipE hb) (ipE hr) (ipE hs)
 have e1:(w.alloc (.cells #[.int .i64 0,.int .i64 0] 44)).heap.size=w.heap.size+1:=by simp
 rw [e1] at hi
 have HI:=Lib.hid hi
 have h1:=h0.upd ((Upd.refl _ _).alloc (.cells #[.int .i64 (g:Int),.int .i64 (a:Int),.int .i64 (h:Int),.int .i64 (b:Int),.int .i64 (r:Int),.int .i64 (s:Int)] 3))
 clear hi h0 e1
 go_wp2_with fail
 refine (rchal_any [(g:Int),(a:Int),(h:Int),(b:Int),(r:Int),(s:Int)] _ _ 6 _ HI.out rfl (by omega)).mono ?_
 rintro e w2 ⟨c,HC,hc,rfl,hu2⟩
 have h2:=h1.upd hu2
 have hcc:c=cWith (expN x) g h k:=by
  rw [HC.out,cWith,chalE,HA.out,HB.out,HR.out,HS.out,HX.out]
 have HCC:=Lib.hid hcc
 clear h1 hcc HC HI HA HB HR HS
 go_wp2_with fail
 refine (rMulQ_n c X _ (by omega) (by omega)).mono ?_
 rintro e w3 ⟨m,HM,hm,rfl,rfl⟩
 go_wp2_with fail
 refine (rAddQ_n k m _ (by omega) (by omega)).mono ?_
 rintro e w3 ⟨z,HZ,hz,rfl,rfl⟩
 obtain ⟨k0,k1⟩:=h2.cells
 obtain ⟨f0,f1⟩:=h2.free
 go_wp2_with fail
 refine bodyPost_ret (v:=.agg #[.int .i64 (c:Int),.int .i64 (z:Int)]) (by simp [results,Tryz.results136,go_sem,k0,k1]) rfl ⟨c,z,HCC.out,?_,hc,hz,rfl,?_⟩
 · show _=_
   rw [HZ.out,HM.out,zWith,HCC.out,HX.out,Nat.add_mod_mod]
 · exact (h2.up.setNew (p:=⟨_,_,none⟩) (Nat.le_refl _) _).setNew (p:=⟨_,_,none⟩) (Nat.le_refl _) _
end Go.Proofs.YtmjlkkbbnkanpaaGreatDoor
