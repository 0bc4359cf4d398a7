/- equal.Verify and what follows. -/
import Derived.Test.YtmjlkkbbnkanpaaGreatDoorHAI
import Derived.Test.YtmjlkkbbnkanpaaGreatDoorHAG
import Derived.Test.YtmjlkkbbnkanpaaGreatDoorHAH
namespace Go.Proofs.YtmjlkkbbnkanpaaGreatDoor
open Go.RowKit
set_option maxRecDepth 100000

set_option maxHeartbeats 1000000 in
theorem rprove_mem (x:Int) (g h:Nat) (w:World) (hx:-9223372036854775808≤x∧x≤9223372036854775807) (hg:memN g) (hh:memN h) :
 Calls Tryz.prog 66 #[.int .i64 x,.int .i64 (g:Int),.int .i64 (h:Int)] w (MkPrf (cWith (expN x) g h (nonceE (expN x) g h)) (zWith (expN x) g h (nonceE (expN x) g h)) w):=by
 have hg2:g<2305843009213691579:=hg.2.1
 have hh2:h<2305843009213691579:=hh.2.1
 have HG:=Lib.hid ((memB_cast g).2 hg)
 have HH:=Lib.hid ((memB_cast h).2 hh)
 clear hg hh
 have h0:=ProofAt.start w 0 0
 go_enter Tryz.func66,Tryz.ntmps66
 go_wp2_with fail
 refine (rmember_is g true _ (ipE hg2) HG.out).mono ?_
 rintro e w1 ⟨rfl,rfl⟩
 go_wp2_with fail
 refine (rmember_is h true _ (ipE hh2) HH.out).mono ?_
 rintro e w1 ⟨rfl,rfl⟩
 go_wp2_with fail
 refine (exponent6_any x _ hx).mono ?_
 rintro e w1 ⟨X,HX,hX,rfl,rfl⟩
 have hi:=ints3 (w.alloc (.cells #[.int .i64 0,.int .i64 0] 44)) X g h 3 (iqE hX) (ipE hg2) (ipE hh2)
 have e1:(w.alloc (.cells #[.int .i64 0,.int .i64 0] 44)).heap.size=w.heap.size+1:=by simp
 rw [e1] at hi
 have HI:=Lib.hid hi
 have h1:=h0.upd ((Upd.refl _ _).alloc (.cells #[.int .i64 (X:Int),.int .i64 (g:Int),.int .i64 (h:Int)] 3))
 clear hi h0 e1
 have h6:(ByteArray.mk #[110,111,110,99,101,47]).size=6:=rfl
 go_wp2_with fail
 refine (joined_any [(X:Int),(g:Int),(h:Int)] _ _ 3 _ HI.out rfl (by omega)).mono ?_
 rintro e w2 ⟨y,HY,hy,rfl,hu2⟩
 have h2:=h1.upd hu2
 have hln:=joined_len HI.out.2.2 3
 have hy2:y.size≤63:=by
  have e3:[(X:Int),(g:Int),(h:Int)].take 3=[(X:Int),(g:Int),(h:Int)]:=rfl
  rw [e3] at hln
  simp only [List.length_cons,List.length_nil] at hln
  omega
 clear h1 hln HI hy
 go_wp2_with fail
 refine (rScalar_any _ w2 (by rw [ByteArray.size_append,h6];omega)).mono ?_
 rintro e w3 ⟨k,HK,hk,rfl,hu3⟩
 have hkk:k=nonceE (expN x) g h:=by
  rw [HK.out,bs_append,HY.out,nonceE,eqScal,eqText,HX.out]
  rfl
 have HKK:=Lib.hid hkk
 have h3:=h2.upd hu3
 clear hkk HK h2
 go_wp2_with fail
 refine (proveWith_any x g h k w3 hx hg2 hh2 hk).mono ?_
 rintro e w4 ⟨c,z,HC,HZ,hc,hz,rfl,hu4⟩
 have h4:=h3.upd hu4
 obtain ⟨k0,k1⟩:=h4.cells
 obtain ⟨f0,f1⟩:=h4.free
 go_wp2_with fail
 refine bodyPost_ret (v:=.agg #[.int .i64 (c:Int),.int .i64 (z:Int)]) (by simp [results,Tryz.results66,go_sem,k0,k1]) rfl ⟨c,z,?_,?_,hc,hz,rfl,?_⟩
 · show _=_
   rw [HC.out,HKK.out]
 · show _=_
   rw [HZ.out,HKK.out]
 · exact (h4.up.setNew (p:=⟨_,_,none⟩) (Nat.le_refl _) _).setNew (p:=⟨_,_,none⟩) (Nat.le_refl _) _
set_option maxHeartbeats 1000000 in
theorem signWith_any (x:Int) (t:ByteArray) (n:Nat) (w:World) (hx:-9223372036854775808≤x∧x≤9223372036854775807) (ht:t.size≤140737488355000) (hn:n<1152921504606845789) :
 Calls Tryz.prog 37 #[.int .i64 x,.string t,.int .i64 (n:Int)] w (MkSig (gP n) (sWith (expN x) n (bs t)) w):=by
 obtain ⟨X,hX⟩:∃ X,X=expN x:=⟨_,rfl⟩
 have hXl:=expN_lt x
 rw [← hX] at hXl
 rw [← hX]
 have HX:=Lib.hid hX
 clear hX
 have h0:=SigAt.start w 0 0
 go_enter Tryz.func37,Tryz.ntmps37
 go_wp2_with fail
 refine (exponent_any x _ hx).mono ?_
 rintro e w1 ⟨x1,HX1,hx1,rfl,rfl⟩
 obtain rfl:x1=X:=HX1.out.trans HX.out.symm
 go_wp2_with fail
 refine (rPow_n 4 n _ _ (by omega) (by omega) rfl).mono ?_
 rintro e w1 ⟨r,HR,hr,rfl,rfl⟩
 go_wp2_with fail
 refine (public_any x _ hx).mono ?_
 rintro e w1 ⟨y,HY,hy,rfl,rfl⟩
 go_wp2_with fail
 refine (rchallenge_any r y t _ (by omega) (by omega) ht).mono ?_
 rintro e w2 ⟨c2,HC2,hc2,rfl,hu2⟩
 have h2:=h0.upd hu2
 clear h0
 go_wp2_with fail
 refine (rMul_any _ _ _ _ (by omega) (by omega) (by omega)).mono ?_
 rintro e w10 ⟨m1,HM1,m10,m11,rfl,rfl⟩
 go_wp2_with fail
 refine (rAdd_any _ _ _ _ (by omega) (by omega) (by omega)).mono ?_
 rintro e w10 ⟨m2,HM2,m20,m21,rfl,rfl⟩
 obtain ⟨s,rfl⟩:∃ s:Nat,m2=(s:Int):=⟨m2.toNat,by omega⟩
 obtain ⟨k0,k1⟩:=h2.cells
 obtain ⟨f0,f1⟩:=h2.free
 go_wp2_with fail
 refine bodyPost_ret (v:=.agg #[.int .i64 (r:Int),.int .i64 (s:Int)]) (by simp [results,Tryz.results37,go_sem,k0,k1]) rfl ⟨r,s,?_,?_,hr,by omega,rfl,?_⟩
 · show _=_
   rw [HR.out,gP]
 · show _=_
   have h2:=HM2.out
   have hrg:r=gP n:=by rw [HR.out,gP]
   rw [HM1.out,HC2.out,HY.out,hrg,← HX.out,Int.add_emod_emod] at h2
   rw [sWith]
   have h3:((s:Nat):Int)=(((n+x1 * chalN (gP n) (gP x1) (bs t)) % Qn:Nat):Int):=by
    rw [h2];simp [Qn]
   omega
 · exact (h2.up.setNew (p:=⟨_,_,none⟩) (Nat.le_refl _) _).setNew (p:=⟨_,_,none⟩) (Nat.le_refl _) _
set_option maxHeartbeats 1000000 in
theorem rsign_any (x:Int) (t:ByteArray) (w:World) (hx:-9223372036854775808≤x∧x≤9223372036854775807) (ht:t.size≤140737488355000) :
 Calls Tryz.prog 8 #[.int .i64 x,.string t] w (MkSig (gP (nonceN (expN x) (bs t))) (sWith (expN x) (nonceN (expN x) (bs t)) (bs t)) w):=by
 have h0:=SigAt.start w 0 0
 have h110:(ByteArray.mk #[110]).size=1:=rfl
 go_enter Tryz.func8,Tryz.ntmps8
 go_wp2_with fail
 refine (exponent_any x _ hx).mono ?_
 rintro e w1 ⟨X,HX,hX,rfl,rfl⟩
 go_wp2_with fail
 refine (rBytes_any X _ (by omega)).mono ?_
 rintro e w2 ⟨b1,HB1,b1l,rfl,hu2⟩
 rw [len8_length] at b1l
 have h2:=h0.upd hu2
 clear h0
 go_wp2_with fail
 refine (rpositive_any _ w2 (by simp [ByteArray.size_append];omega)).mono ?_
 rintro e w3 ⟨n,HN,hn0,hn,rfl,hu3⟩
 have hnn:n=nonceN (expN x) (bs t):=by
  rw [HN.out,bs_append,bs_append,HB1.out,HX.out,nonceN]
  rfl
 have HNN:=Lib.hid hnn
 have h3:=h2.upd hu3
 clear hnn h2
 go_wp2_with fail
 refine (signWith_any x t n w3 hx ht hn).mono ?_
 rintro e w4 ⟨r,s,HR,HS,hr,hs,rfl,hu4⟩
 have h4:=h3.upd hu4
 obtain ⟨k0,k1⟩:=h4.cells
 obtain ⟨f0,f1⟩:=h4.free
 go_wp2_with fail
 refine bodyPost_ret (v:=.agg #[.int .i64 (r:Int),.int .i64 (s:Int)]) (by simp [results,Tryz.results8,go_sem,k0,k1]) rfl ⟨r,s,?_,?_,hr,hs,rfl,?_⟩
 · show _=_
   rw [HR.out,HNN.out]
 · show _=_
   rw [HS.out,HNN.out]
 · exact (h4.up.setNew (p:=⟨_,_,none⟩) (Nat.le_refl _) _).setNew (p:=⟨_,_,none⟩) (Nat.le_refl _) _

end Go.Proofs.YtmjlkkbbnkanpaaGreatDoor

namespace Go.Proofs.YtmjlkkbbnkanpaaGreatDoor
set_option maxRecDepth 100000
open Go Go.RowKit
end Go.Proofs.YtmjlkkbbnkanpaaGreatDoor

namespace Go.Proofs.YtmjlkkbbnkanpaaGreatDoor
open Go.RowKit
set_option maxRecDepth 100000
def MkNum (l:List UInt8) (w:World) (e:Ending) (w':World):Prop:=∃ (n:Int) (ok:Bool),Hid (numOk l n ok)∧i64in n∧e=.returned (.tuple #[.int .i64 n,.bool ok])∧Upd [] [] w w'
theorem bs_get' (s:ByteArray) (k:Nat) (h:k<s.size):(bs s)[k]? =some s[k]:=by
 have:k<(bs s).length:=h
 rw [List.getElem?_eq_getElem this];rfl
theorem eq_beq {y s:ByteArray}:(y.toList == s.toList)=true ↔ bs y=bs s:=by
 rw [beq_iff_eq,ByteArray.toList_eq,ByteArray.toList_eq]
 rfl
theorem bs_left (s:ByteArray) (k:Nat):bs (s.extract 0 k)=(bs s).take k:=by rw [bs_extract];simp
theorem bs_right (s:ByteArray) (k:Nat):bs (s.extract k s.size)=(bs s).drop k:=by
 rw [bs_extract,List.take_of_length_le]
 simp [bs_length]
end Go.Proofs.YtmjlkkbbnkanpaaGreatDoor
