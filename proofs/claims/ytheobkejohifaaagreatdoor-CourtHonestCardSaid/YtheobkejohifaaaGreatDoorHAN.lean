/- sortesref07: decimal, Pad and what follows. -/
import Derived.Test.YtheobkejohifaaaGreatDoorHAH
import Derived.Test.YtheobkejohifaaaGreatDoorHAK
import Derived.Test.YtheobkejohifaaaGreatDoorHAG
import Derived.Test.YtheobkejohifaaaGreatDoorHAC
import Derived.Test.YtheobkejohifaaaGreatDoorHAD
import Derived.Test.YtheobkejohifaaaGreatDoorHAA
import Derived.Test.YtheobkejohifaaaGreatDoorHAM
namespace Go.Proofs.YtheobkejohifaaaGreatDoor
open Go.RowKit
set_option maxRecDepth 100000
theorem pek (u:Nat) (w:World) (hu:u<9223372036854775808):Calls Tryz.prog 245 #[.int .i64 (u:Int)] w (MkS (Lib.itoa (u:Int)) w):=by
 go_enter Tryz.func245,Tryz.ntmps245
 go_wp2_with fail
 refine (of_int u w (by omega)).mono ?_
 rintro e w1 ⟨a,HA,rfl,hu1⟩
 go_wp2_with fail
 refine (pd2 u w1 a HA.out (by omega)).mono ?_
 rintro e w2 ⟨y,HY,hy,rfl,hu2⟩
 go_wp2_with fail
 go_ret
 refine ⟨y,?_,?_,rfl,hu1.trans hu2⟩
 · show _=_
   rw [HY.out];exact (pbF u).symm
 · have:=pbF u
   show _≤(Lib.itoa (u:Int)).length
   rw [this];exact hy
theorem pel (u:Nat) (h:u<9223372036854775808):(Lib.itoa (u:Int)).length≤20:=itoa_len (u:Int) (by unfold pab;omega)
theorem pox (key idx:Nat) (w:World) (hk:key<9223372036854775808) (hi:idx<9223372036854775808):Calls Tryz.prog 201 #[.int .i64 (key:Int),.int .i64 (idx:Int)] w (Mk (.agg (byteVals (padB key idx)).toArray) w):=by
 have lk:=pel key hk
 have li:=pel idx hi
 have s0:AB 51 (w.alloc (.cells (byteVals zero32).toArray 51)) w.heap.size zero32:=heap_alloc_new _ _
 have u0:Upd [] [] w (w.alloc (.cells (byteVals zero32).toArray 51)):=(Upd.refl _ _).alloc _
 have HZ:=Lib.hid s0
 have HD1:=Lib.hid (pek key (w.alloc (.cells (byteVals zero32).toArray 51)) hk)
 clear s0
 go_enter Tryz.func201,Tryz.ntmps201
 go_wp2_with fail
 refine HD1.out.mono ?_
 rintro e w1 ⟨y,HY,hy,rfl,hq⟩
 have u1:=u0.trans hq
 have HZ1:=Lib.hid (HZ.out.upd hq)
 clear hq HZ HD1
 go_wp2_with fail
 refine (pek idx w1 hi).mono ?_
 rintro e w2 ⟨z,HX,hz,rfl,hq⟩
 have u2:=u1.trans hq
 have HZ2:=Lib.hid (HZ1.out.upd hq)
 have h4:(ByteArray.mk #[98,111,120,47]).size=4:=rfl
 have h5:(ByteArray.mk #[47]).size=1:=rfl
 clear hq HZ1 u1
 go_wp2_with fail
 refine (pgL _ w2 (by simp [ByteArray.size_append];omega)).mono ?_
 rintro e w3 ⟨rfl,hq⟩
 have u3:=u2.trans hq
 have HZ3:=Lib.hid (HZ2.out.upd hq)
 obtain ⟨D,hD⟩:∃ D,D=sha (bs (⟨#[98,111,120,47]⟩ ++ y ++ ⟨#[47]⟩ ++ z)):=⟨_,rfl⟩
 have hDl:D.length=32:=by rw [hD];exact pcf _
 have HDL:=Lib.hid hDl
 have HDE:Hid (D=padB key idx):=by
  show _=_
  rw [hD]
  simp only [pae,HY.out,HX.out]
  rfl
 rw [← hD]
 clear hq hD hDl HZ2
 go_wp2_with (first | (refine wpList_store_row rfl 51 _ _ rfl w.heap.size (byteVals D).toArray rfl rfl _ _ HZ3.out (hashInfo HDL.out) (by simp [byteVals,HDL.out,zero32]) (hashOne _) ?_))
 refine bodyPost_ret (results_cell_row rfl _ _ w.heap.size _ (byteVals D).toArray _ _ rfl (HZ3.out.setRow D) Tryz.underlying51 rfl (hashInfo HDL.out)) rfl ⟨?_,u3.setRowNew (by omega) _⟩
 rw [HDE.out]
theorem rpow_at (a n m:Int) (N:Nat) (hN:n=(N:Int)) (w:World) (ha:-9223372036854775808≤a∧a≤9223372036854775807) (hn:n≤9223372036854775807) (hm:1≤m∧m≤9223372036854775807) :
 Calls Tryz.prog 22 #[.int .i64 a,.int .i64 n,.int .i64 m] w (RetZ .i64 m (powZ a N m) w):=by
 subst hN
 exact pjX a m N w ha (by omega) hm
theorem pi9 (a:Int) (w:World) (ha:-9223372036854775808≤a∧a≤9223372036854775807) :
 Calls Tryz.prog 56 #[.int .i64 a] w (RetB (memB a) w):=by
 by_cases h1:1≤a
 · by_cases h2:a<2305843009213691579
   · have HM:=Lib.hid (pjL h1 (by omega))
     go_enter Tryz.func56,Tryz.ntmps56
     go_wp2_with (go_at_call 22;((with_reducible refine (rpow_at a _ _ 1152921504606845789 qCast _ (by omega) (by omega) (by omega)).mono ?_);rintro e w' ⟨r,HR,r0,r1,rfl,rfl⟩))
     go_ret
     refine ⟨_,?_,rfl,rfl⟩
     show _=_
     rw [HM.out,← HR.out]
     rfl
   · have h3:2305843009213691579≤a:=by omega
     have HM:=Lib.hid (pho (a:=a) (by omega))
     clear h2
     go_enter Tryz.func56,Tryz.ntmps56
     go_wp2_with fail
     go_ret
     exact ⟨_,HM.out.symm,rfl,rfl⟩
 · have h3:a<1:=by omega
   have HM:=Lib.hid (pgA h3)
   clear h1
   go_enter Tryz.func56,Tryz.ntmps56
   go_wp2_with fail
   go_ret
   exact ⟨_,HM.out.symm,rfl,rfl⟩
theorem pc2 (a:Int) (b:Bool) (w:World) (ha:pab a) (h:memB a=b):Calls Tryz.prog 56 #[.int .i64 a] w (fun e w'=>e=.returned (.bool b)∧w=w'):=by
 refine (pi9 a w ha).mono ?_
 rintro e w' ⟨r,HR,rfl,rfl⟩
 exact ⟨by rw [HR.out,h],rfl⟩
theorem pmO (a b:Nat) (w:World) (ha:a≤9223372036854775807) (hb:b≤9223372036854775807) :
 Calls Tryz.prog 55 #[.int .i64 (a:Int),.int .i64 (b:Int),.int .i64 2305843009213691579] w (fun e w'=>∃ r:Nat,Hid (r=a * b % Pn)∧r<2305843009213691579∧e=.returned (.int .i64 (r:Int))∧w=w'):=by
 refine (rMul_any a b 2305843009213691579 w (by omega) (by omega) (by omega)).mono ?_
 rintro e w1 ⟨r,HR,r0,r1,rfl,rfl⟩
 obtain ⟨m,rfl⟩:∃ m:Nat,r=(m:Int):=⟨r.toNat,by omega⟩
 refine ⟨m,?_,by omega,rfl,rfl⟩
 show _=_
 have h:((m:Nat):Int)=((a * b % Pn:Nat):Int):=by rw [HR.out];simp [Pn]
 omega
def ppT (c z:Nat) (w:World) (e:Ending) (w':World):Prop:=∃ a b:Nat,Hid (a=c)∧Hid (b=z)∧a<1152921504606845789∧b<1152921504606845789∧e=.returned (.agg #[.int .i64 (a:Int),.int .i64 (b:Int)])∧Upd [] [] w w'
theorem prv (w:World) (a b c:Int) (t:TypeId) (ha:pab a) (hb:pab b) (hc:pab c):IntsIn (w.alloc (.cells #[.int .i64 a,.int .i64 b,.int .i64 c] t)) w.heap.size [a,b,c]:=by
 refine ⟨by simp,fun j x h=>?_,fun x hx=>?_⟩
 · rw [cell_of_row _ w.heap.size _ #[.int .i64 a,.int .i64 b,.int .i64 c] t (0,0) (heap_alloc_new _ _)]
   match j,h with
   | 0,h=>simp at h;subst h;rfl
   | 1,h=>simp at h;subst h;rfl
   | 2,h=>simp at h;subst h;rfl
   | n+3,h=>simp at h
 · simp at hx
   rcases hx with rfl | rfl | rfl <;> assumption
theorem pqN (w:World) (a b c d e f:Int) (t:TypeId) (ha:pab a) (hb:pab b) (hc:pab c) (hd:pab d) (he:pab e) (hf:pab f):IntsIn (w.alloc (.cells #[.int .i64 a,.int .i64 b,.int .i64 c,.int .i64 d,.int .i64 e,.int .i64 f] t)) w.heap.size [a,b,c,d,e,f]:=by
 refine ⟨by simp,fun j x h=>?_,fun x hx=>?_⟩
 · rw [cell_of_row _ w.heap.size _ #[.int .i64 a,.int .i64 b,.int .i64 c,.int .i64 d,.int .i64 e,.int .i64 f] t (0,0) (heap_alloc_new _ _)]
   match j,h with
   | 0,h=>simp at h;subst h;rfl
   | 1,h=>simp at h;subst h;rfl
   | 2,h=>simp at h;subst h;rfl
   | 3,h=>simp at h;subst h;rfl
   | 4,h=>simp at h;subst h;rfl
   | 5,h=>simp at h;subst h;rfl
   | n+6,h=>simp at h
 · simp at hx
   rcases hx with rfl | rfl | rfl | rfl | rfl | rfl <;> assumption
theorem pao (a:Int) (b:Bool) (w:World) (ha:pab a) (h:memB a=b):Calls Tryz.prog 181 #[.int .i64 a] w (fun e w'=>e=.returned (.bool b)∧Upd [] [] w w'):=pbj a b w ha h
theorem pmP (l:List (List UInt8)) (x:List UInt8) (h:l≠[]):Lib.join (l ++ [x]) [47]=Lib.join l [47] ++ [47] ++ x:=by
 cases l with
 | nil=>exact absurd rfl h
 | cons y r =>
  rw [List.cons_append,Lib.join_cons,Lib.join_cons]
  simp [Lib.joinTail,List.append_assoc]
theorem pd5 {xs:List Int} (h:∀ x∈xs,pab x) (k:Nat):(Lib.join ((xs.take k).map Lib.itoa) [47]).length≤21 * xs.length:=by
 have h1:=phK ((xs.take k).map Lib.itoa) (by
  intro z hz
  simp only [List.mem_map] at hz
  obtain ⟨v,hv,rfl⟩:=hz
  exact itoa_len v (h v (List.mem_of_mem_take hv)))
 rw [List.length_map,List.length_take] at h1
 omega
set_option maxHeartbeats 1000000 in
theorem pga (xs:List Int) (g c n:Nat) (w:World) (hx:IntsIn w g xs) (hn:n=xs.length) (hl:n≤1000) :
 Calls Tryz.prog 58 #[.slice (some ⟨g,0,none⟩) n c] w (MkS (Lib.join (xs.map Lib.itoa) [47]) w):=by
 have HX:=Lib.hid hx
 have HN:=Lib.hid hn
 clear hx hn
 go_enter Tryz.func58,Tryz.ntmps58
 go_wp2_with fail
 go_loopw [3,4] (fun s i wr=>∃ (k:Nat) (t:ByteArray),i=.int .i64 (k:Int)∧s=.string t∧k≤n∧t.size≤21000∧Hid (bs t=Lib.join ((xs.take k).map Lib.itoa) [47])∧Hid (Upd [] [] w wr)) (fun _ i _=>n - (intOf i).toNat)
 case atStart=>exact ⟨0,⟨#[]⟩,rfl,rfl,Nat.zero_le _,by decide,rfl,Upd.refl _ _⟩
 case round =>
  obtain ⟨k,t,rfl,rfl,hk,ht,HT,HUP⟩:=hrel
  by_cases hlt:k<n
  · have hkl:k<xs.length:=by have:=HN.out;omega
    obtain ⟨x,hx⟩:∃ x,xs[k]? =some x:=⟨_,List.getElem?_eq_getElem hkl⟩
    have hi:=HX.out.upd HUP.out
    have q1:=hi.2.1 k x hx
    have hxi:pab x:=hi.2.2 x (List.mem_of_getElem? hx)
    have htk:xs.take (k+1)=xs.take k ++ [x]:=by rw [List.take_add_one,hx];rfl
    have hlen:(Lib.join ((xs.take (k+1)).map Lib.itoa) [47]).length≤21000:=by
     have:=pd5 HX.out.2.2 (k+1)
     have:=HN.out
     omega
    have HTK:=Lib.hid htk
    have HLEN:=Lib.hid hlen
    have hil:=itoa_len x hxi
    have h47:(ByteArray.mk #[47]).size=1:=rfl
    clear hx htk hi hlen hkl
    by_cases h0:k=0
    · subst h0
      have hte:t=⟨#[]⟩:=paM (by rw [HT.out];rfl)
      subst hte
      go_wp2_with fail
      refine (pb8 x wr hxi).mono ?_
      rintro e w2 ⟨y,HY,hy,rfl,hu2⟩
      have hy2:y.size≤20:=by omega
      go_wp2_with fail
      refine ⟨⟨1,y,rfl,by congr 1,by omega,by omega,?_,HUP.out.trans hu2⟩,by simp [intOf];omega⟩
      show _=_
      rw [HTK.out,HY.out]
      simp [Lib.join_one]
    · have hk0:0<k:=by omega
      have HK0:=Lib.hid h0
      clear h0
      go_wp2_with fail
      refine (pb8 x wr hxi).mono ?_
      rintro e w2 ⟨y,HY,hy,rfl,hu2⟩
      have hy2:y.size≤20:=by omega
      have hfin:bs (t ++ ⟨#[47]⟩ ++ y)=Lib.join ((xs.take (k+1)).map Lib.itoa) [47]:=by
       have hne:(xs.take k).map Lib.itoa≠[]:=by
        intro e
        have h1:=congrArg List.length e
        rw [List.length_map,List.length_take] at h1
        simp only [List.length_nil] at h1
        have h2:=HN.out
        have h3:=HK0.out
        omega
       rw [pae,pae,HT.out,HY.out,HTK.out,List.map_append,List.map_cons,List.map_nil,pmP _ _ hne]
       rfl
      have HF:=Lib.hid hfin
      clear hfin
      go_wp2_with fail
      exact ⟨⟨k+1,_,by go_num,rfl,by omega,by rw [paT HF.out];exact HLEN.out,HF.out,HUP.out.trans hu2⟩,by simp [intOf];omega⟩
  · obtain rfl:k=n:=by omega
    have hfin:bs t=Lib.join (xs.map Lib.itoa) [47]:=by rw [HT.out,HN.out,List.take_length]
    have HF:=Lib.hid hfin
    clear hfin
    go_wp2_with fail
    go_ret
    exact ⟨t,HF.out,Nat.le_of_eq (paT HF.out),rfl,HUP.out⟩
theorem pmQ (xs:List Int) (g c n:Nat) (w:World) (hx:IntsIn w g xs) (hn:n=xs.length) (hl:n≤1000) :
 Calls Tryz.prog 120 #[.slice (some ⟨g,0,none⟩) n c] w (MkN 1152921504606845789 (pei plW xs) w):=by
 have hln:=pd5 hx.2.2 xs.length
 rw [List.take_length,← hn] at hln
 have HX:=Lib.hid hx
 have HN:=Lib.hid hn
 have h6:(ByteArray.mk #[101,113,117,97,108,47]).size=6:=rfl
 clear hx hn
 go_enter Tryz.func120,Tryz.ntmps120
 go_wp2_with fail
 refine (pga xs g c n w HX.out HN.out hl).mono ?_
 rintro e w1 ⟨y,HY,hy,rfl,hu1⟩
 have hy2:y.size≤21000:=by omega
 go_wp2_with fail
 refine (pbD _ w1 (by rw [ByteArray.size_append,h6];omega)).mono ?_
 rintro e w2 ⟨r,HR,hr,rfl,hu2⟩
 go_wp2_with fail
 go_ret
 refine ⟨r,?_,hr,rfl,hu1.trans hu2⟩
 show _=_
 rw [HR.out,pae,HY.out,pei,pjR]
 rfl
theorem pc3 (a n:Nat) (w:World) (ha:a≤9223372036854775807) (hn:n≤9223372036854775807) :
 Calls Tryz.prog 121 #[.int .i64 (a:Int),.int .i64 (n:Int)] w (fun e w'=>∃ r:Nat,Hid (r=pP a n)∧r<2305843009213691579∧e=.returned (.int .i64 (r:Int))∧w=w'):=by
 go_enter Tryz.func121,Tryz.ntmps121
 go_wp2_with fail
 refine (pcJ a n _ w ha hn rfl).mono ?_
 rintro e w1 ⟨r,HR,hr,rfl,rfl⟩
 go_wp2_with fail
 go_ret
 exact ⟨r,HR.out,hr,rfl,rfl⟩
theorem pmR (a b:Nat) (w:World) (ha:a≤9223372036854775807) (hb:b≤9223372036854775807) :
 Calls Tryz.prog 55 #[.int .i64 (a:Int),.int .i64 (b:Int),.int .i64 1152921504606845789] w (fun e w'=>∃ r:Nat,Hid (r=a * b % Qn)∧r<1152921504606845789∧e=.returned (.int .i64 (r:Int))∧w=w'):=by
 refine (rMul_any a b 1152921504606845789 w (by omega) (by omega) (by omega)).mono ?_
 rintro e w1 ⟨r,HR,r0,r1,rfl,rfl⟩
 obtain ⟨m,rfl⟩:∃ m:Nat,r=(m:Int):=⟨r.toNat,by omega⟩
 refine ⟨m,?_,by omega,rfl,rfl⟩
 show _=_
 have h:((m:Nat):Int)=((a * b % Qn:Nat):Int):=by rw [HR.out];simp [Qn]
 omega
theorem pja (a b:Nat) (w:World) (ha:a≤9223372036854775807) (hb:b≤9223372036854775807) :
 Calls Tryz.prog 49 #[.int .i64 (a:Int),.int .i64 (b:Int),.int .i64 1152921504606845789] w (fun e w'=>∃ r:Nat,Hid (r=(a+b) % Qn)∧r<1152921504606845789∧e=.returned (.int .i64 (r:Int))∧w=w'):=by
 refine (pjV a b 1152921504606845789 w (by omega) (by omega) (by omega)).mono ?_
 rintro e w1 ⟨r,HR,r0,r1,rfl,rfl⟩
 obtain ⟨m,rfl⟩:∃ m:Nat,r=(m:Int):=⟨r.toNat,by omega⟩
 refine ⟨m,?_,by omega,rfl,rfl⟩
 show _=_
 have h:((m:Nat):Int)=(((a+b) % Qn:Nat):Int):=by rw [HR.out];simp [Qn]
 omega
set_option maxHeartbeats 2000000 in
theorem pgR (x:Int) (g h k:Nat) (w:World) (hx:-9223372036854775808≤x∧x≤9223372036854775807) (hg:g<2305843009213691579) (hh:h<2305843009213691579) (hk:k<1152921504606845789) :
 Calls Tryz.prog 60 #[.int .i64 x,.int .i64 (g:Int),.int .i64 (h:Int),.int .i64 (k:Int)] w (ppT (cWith (expN x) g h k) (zWith (expN x) g h k) w):=by
 have h0:=ProofAt.start w 0 0
 go_enter Tryz.func60,Tryz.ntmps60
 go_wp2_with fail
 refine (pdK x _ hx).mono ?_
 rintro e w1 ⟨X,HX,hX,rfl,rfl⟩
 go_wp2_with fail
 refine (pc3 g X _ (by omega) (by omega)).mono ?_
 rintro e w1 ⟨a,HA,ha,rfl,rfl⟩
 go_wp2_with fail
 refine (pc3 h X _ (by omega) (by omega)).mono ?_
 rintro e w1 ⟨b,HB,hb,rfl,rfl⟩
 go_wp2_with fail
 refine (pc3 g k _ (by omega) (by omega)).mono ?_
 rintro e w1 ⟨r,HR,hr,rfl,rfl⟩
 go_wp2_with fail
 refine (pc3 h k _ (by omega) (by omega)).mono ?_
 rintro e w1 ⟨s,HS,hs,rfl,rfl⟩
 have hi:=pqN (w.alloc (.cells #[.int .i64 0,.int .i64 0] 38)) g a h b r s 3 (ipE hg) (ipE ha) (ipE hh) (ipE hb) (ipE hr) (ipE hs)
 have e1:(w.alloc (.cells #[.int .i64 0,.int .i64 0] 38)).heap.size=w.heap.size+1:=by simp
 rw [e1] at hi
 have HI:=Lib.hid hi
 have h1:=h0.upd ((Upd.refl _ _).alloc (.cells #[.int .i64 (g:Int),.int .i64 (a:Int),.int .i64 (h:Int),.int .i64 (b:Int),.int .i64 (r:Int),.int .i64 (s:Int)] 3))
 clear hi h0 e1
 go_wp2_with fail
 refine (pmQ [(g:Int),(a:Int),(h:Int),(b:Int),(r:Int),(s:Int)] _ _ 6 _ HI.out rfl (by omega)).mono ?_
 rintro e w2 ⟨c,HC,hc,rfl,hu2⟩
 have h2:=h1.upd hu2
 have hcc:c=cWith (expN x) g h k:=by
  rw [HC.out,cWith,pkW,HA.out,HB.out,HR.out,HS.out,HX.out]
 have HCC:=Lib.hid hcc
 clear h1 hcc HC HI HA HB HR HS
 go_wp2_with fail
 refine (pmR c X _ (by omega) (by omega)).mono ?_
 rintro e w3 ⟨m,HM,hm,rfl,rfl⟩
 go_wp2_with fail
 refine (pja k m _ (by omega) (by omega)).mono ?_
 rintro e w3 ⟨z,HZ,hz,rfl,rfl⟩
 obtain ⟨k0,k1⟩:=h2.cells
 obtain ⟨f0,f1⟩:=h2.free
 go_wp2_with fail
 refine bodyPost_ret (v:=.agg #[.int .i64 (c:Int),.int .i64 (z:Int)]) (by simp [results,Tryz.results60,go_sem,k0,k1]) rfl ⟨c,z,HCC.out,?_,hc,hz,rfl,?_⟩
 · show _=_
   rw [HZ.out,HM.out,zWith,HCC.out,HX.out,Nat.add_mod_mod]
 · exact (h2.up.setNew (p:=⟨_,_,none⟩) (Nat.le_refl _) _).setNew (p:=⟨_,_,none⟩) (Nat.le_refl _) _
theorem pem (v:Value) (l:List Nat) (w:World) (h:Sl w v l) (hm:∀ x∈l,memN x) (hl:l.length≤1000):Calls Tryz.prog 158 #[v] w (Ret (.bool true) w):=by
 obtain ⟨ao,cap,rfl,h1,h2⟩:=h.form
 have HS:=Lib.hid h
 have HM:=Lib.hid hm
 obtain ⟨n,hn⟩:∃ n,n=l.length:=⟨_,rfl⟩
 have HN:=Lib.hid hn
 rw [← hn] at h1 hl
 rw [← hn] at HS ⊢
 clear h hm hn
 go_enter Tryz.func158,Tryz.ntmps158
 go_wp2_with fail
 go_loopw [3,4] (fun i _ wr=>∃ k:Nat,i=.int .i64 (k:Int)∧k≤n∧wr=w) (fun i _ _=>n - (intOf i).toNat)
 case atStart=>exact ⟨0,rfl,Nat.zero_le _,(by first | trivial | rfl)⟩
 case round =>
  obtain ⟨k,rfl,hk,rfl⟩:=hrel
  by_cases hlt:k<n
  · obtain ⟨x,hx⟩:∃ x,l[k]? =some x:=⟨_,List.getElem?_eq_getElem (by rw [← HN.out];exact hlt)⟩
    obtain ⟨b,rfl,hc⟩:=HS.out.get hx
    have hxm:=HM.out x (List.mem_of_getElem? hx)
    have HX:=Lib.hid hxm
    have i0:(0:Int)≤(k:Int):=by omega
    have i1:(k:Int)<(n:Int):=by omega
    clear hx hxm
    go_wp2_with fail
    refine (pc2 (x:Int) true _ (by have:=HX.out.2.1;unfold Pn at this;unfold pab;omega) ((pbu x).2 HX.out)).mono ?_
    rintro e w' ⟨rfl,rfl⟩
    go_wp2_with fail
    exact ⟨⟨k+1,by go_num,by omega,(by first | trivial | rfl)⟩,by simp [intOf];omega⟩
  · go_wp2_with fail
    go_ret
    exact ⟨rfl,rfl⟩
theorem pmS {l:List Nat} {k c:Nat} (x:Nat) (h:l[k]? =some c):valN (l.drop k) x=(valN (l.drop (k+1)) x * x % Qn+c) % Qn:=by
 have hk:=(List.getElem?_eq_some_iff.1 h).1
 have e:=List.drop_eq_getElem_cons hk
 have hc:l[k]=c:=(List.getElem?_eq_some_iff.1 h).2
 rw [e,hc]
 rfl
set_option maxHeartbeats 1000000 in
theorem pd6 (v:Value) (l:List Nat) (x:Nat) (w:World) (h:Sl w v l) (hb:∀ c∈l,c<9223372036854775808) (hl:l.length≤1000) (hx:x<9223372036854775808) :
 Calls Tryz.prog 24 #[v,.int .i64 (x:Int)] w (fun e w'=>∃ r:Nat,Hid (r=valN l x)∧r<1152921504606845789∧e=.returned (.int .i64 (r:Int))∧Upd [] [] w w'):=by
 obtain ⟨ao,cap,rfl,h1,h2⟩:=h.form
 have HS:=Lib.hid h
 have HB:=Lib.hid hb
 obtain ⟨n,hn⟩:∃ n,n=l.length:=⟨_,rfl⟩
 have HN:=Lib.hid hn
 rw [← hn] at h1 hl
 rw [← hn] at HS ⊢
 have hx2:x≤9223372036854775807:=by omega
 clear h hb hn hx
 go_enter Tryz.func24,Tryz.ntmps24
 go_wp2_with fail
 go_loopw [5,6] (fun o i wr=>∃ (k r:Nat) (z:Int),o=.int .i64 (r:Int)∧i=.int .i64 z∧z=(k:Int) - 1∧k≤n∧r<1152921504606845789∧Hid (r=valN (l.drop k) x)∧Hid (Upd [] [] w wr)) (fun _ i _=>(intOf i+1).toNat)
 case atStart=>exact ⟨n,0,(n:Int) - 1,rfl,rfl,rfl,Nat.le_refl _,by omega,by show _=_;rw [HN.out,List.drop_length];rfl,Upd.refl _ _⟩
 case round =>
  obtain ⟨k,r,z,rfl,rfl,hz,hk,hr,HR,HU⟩:=hrel
  by_cases h0:0<k
  · obtain ⟨m,rfl⟩:∃ m,k=m+1:=⟨k - 1,by omega⟩
    obtain rfl:z=(m:Int):=by omega
    obtain ⟨c,hc⟩:∃ c,l[m]? =some c:=⟨_,List.getElem?_eq_getElem (by rw [← HN.out];omega)⟩
    have HS2:=Lib.hid (HS.out.upd HU.out)
    obtain ⟨b,rfl,hcell⟩:=HS2.out.get hc
    have hcb:=HB.out c (List.mem_of_getElem? hc)
    have HV:=Lib.hid (pmS x hc)
    have HCC:=Lib.hid hcell
    have hbl:b<wr.heap.size:=World.block_lt_of_cell? _ _ hcell
    have HK:Hid (∀ W,Upd [] [] wr W→W.cell? ⟨b,m,none⟩=some (.int .i64 (c:Int))):=fun W u=>(u.cell (p:=⟨b,m,none⟩) hbl (by simp)).trans HCC.out
    have ud0:Upd [] [] wr wr.drew:=(Upd.refl _ _).drew
    have i0:(0:Int)≤(m:Int):=by omega
    have i1:(m:Int)<(n:Int):=by omega
    clear hc hcell hz hbl
    go_upto_region 5 with (fail)
    refine wp_region_noPanic ?_
    refine wp_region_held_drew (S:=fun wp=>wp.cell? ⟨b,m,none⟩=some (.int .i64 (c:Int))) (by kernel_rfl) ?_ (fun hHeld=>?_)
    · exact HK.out _ ud0
    refine tkY 0 hHeld ?_
    refine tkY 1 hHeld ?_
    refine tkY 3 hHeld ?_
    refine tkY 4 hHeld ?_
    refine tkY 5 hHeld ?_
    refine tkY 6 hHeld ?_
    refine tk1 2 fun K hK=>?_
    go_simp;refine (pmR r x _ (by omega) (by omega)).mono ?_;rintro e wv1 ⟨a,HA,ha,rfl,rfl⟩;go_wp2_with fail
    refine tkK hK (HK.out _ ud0) fun hHeld=>?_
    clear hK K
    refine tk1 7 fun K hK=>?_
    go_simp;refine (pja a c _ (by omega) (by omega)).mono ?_;rintro e wv2 ⟨q,HQ,hq,rfl,rfl⟩;go_wp2_with fail
    refine tkK hK (HK.out _ ud0) fun hHeld=>?_
    clear hK K
    refine tkY 8 hHeld ?_
    refine wpAnyH_done (by kernel_rfl) ?_ _
    refine NoPanic.normal ?_
    go_wp2_with fail
    refine ⟨⟨m,q,(m:Int) - 1,rfl,rfl,rfl,by omega,hq,?_,HU.out.drew⟩,(by first | (simp [intOf];done) | (simp [intOf];omega))⟩
    show _=_
    rw [HV.out,HQ.out,HA.out,HR.out]
  · obtain rfl:k=0:=by omega
    have hzn:¬ (0:Int)≤z:=by omega
    have HR2:Hid (r=valN l x):=HR.out
    clear HR
    go_wp2_with fail
    go_ret
    exact ⟨r,HR2,hr,rfl,HU.out⟩
theorem Upd.setCellsNew {S S':List Nat} {a:World} {g:Nat} (hg:a.heap.size≤g):∀ (V:List Value) (o:Nat) (b:World),Upd S S' a b→Upd S S' a (b.setCells g o V)
 | [],_,_,h=>h
 | v :: V,o,b,h=>by
  rw [World.setCells]
  exact Upd.setCellsNew hg V (o+1) _ (h.setNew (p:=⟨g,o,none⟩) hg v)
structure RdSt (w wi:World) (rest:ByteArray) (q:Bool) (x:Rc):Prop where
 rz:RcAt wi w.heap.size Rc.zero
 rd:RdAt wi (w.heap.size+1) rest q
 rc:RcAt wi (w.heap.size+1+1) x
 up:Upd [] [] w wi
 ok:x.ok
theorem wpList_store_midAs {P:Program} {ops:Array Oper} {rest:List Oper} {op:Oper} {a:Act} {w:World} {Q:Exit→Act→World→Prop} (hgd:op.guard=none) (ty:TypeId) (x y:Operand) (ho:op.op=.store ty x y)
 (b o:Nat) (cells:Array Value) (hx:a.eval x=.pointer (some ⟨b,o,none⟩)) (hy:a.eval y=.agg cells)
 (ht:w.there b o cells.size) (hi:(P.info? ty).map (·.size)=some cells.size) (h1:cells.all (·.oneCell')=true) (w':World) (hw:w.setCells b o cells.toList=w')
 (h:wpList P ops Q rest (a.put op.dst undef) w'):wpList P ops Q (op :: rest) a w:=by
 subst hw
 exact wpList_store_mid hgd ty x y ho b o cells hx hy ht hi h1 h
theorem wpList_load_want {P:Program} {ops:Array Oper} {rest:List Oper} {o:Oper} {a:Act} {w:World} {Q:Exit→Act→World→Prop} (hw:Region.wanted o (yielded ops a.tmps)=true) (ty:TypeId) (x:Operand) (ho:o.op=.load ty x)
 (b:Nat) (hx:a.eval x=.pointer (some ⟨b,0,none⟩)) (C:Array Value) (hr:(Instr.loadAt ty (.pointer (some ⟨b,0,none⟩))).run P w=.ok (.agg C) w)
 (h:wpList P ops Q rest (a.put o.dst (.agg C)) w):wpList P ops Q (o :: rest) a w:=by
 refine wpList_step fun K hK=>?_
 rw [if_pos hw]
 unfold Oper.wp execOp
 simp only [ho,hx,Sem.run_bind,hr,Result.andThen_ok]
 exact hK _ _ h
theorem pgb {W0 w w':World} (h:Upd [] [] W0 w) (k:Below W0.heap.size w w'):Upd [] [] W0 w' :=
 ⟨k.os.trans h.os,k.tape.trans h.tape,k.output.trans h.output,Nat.le_trans h.size k.size,fun i hi _=>(k.block i hi).trans (h.block i hi (by simp)),fun _ hk=>absurd hk (by simp)⟩
structure BtSt (W0 wi:World) (acc:List UInt8):Prop where
 bd:Lib.IsBuilder 140 5 W0.heap.size W0.heap.size (Lib.byteCells acc) wi
 up:Upd [] [] W0 wi
def prT (w:World) (ao:Option Addr) (l:List Rc):Prop :=
 ∀ (k:Nat) x,l[k]? =some x→x.ok∧x.draw.size≤1000000∧∃ g o,ao=some ⟨g,o,none⟩∧g<w.heap.size∧w.rangeAt g (o+k * 102) (rcV x)
end Go.Proofs.YtheobkejohifaaaGreatDoor
