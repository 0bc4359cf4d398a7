/- sign.Key, sign.Sign, sign.Verify and what follows. -/
import Derived.Test.YtheobkejohifaaaGreatDoorHAC
import Derived.Lib.ItoaNum
import Derived.Lib.AtoiAllCases
import Derived.Lib.IndexMore
import Derived.Lib.IndexLaws
import Derived.Test.YtheobkejohifaaaGreatDoorCards
import Derived.Test.YtheobkejohifaaaGreatDoorTie
import Derived.ProofKit
import Derived.OpenShut
import Derived.ShutString
import Derived.ChangeOld
import Derived.Lib.SmallJoins
import Derived.Deep.Slices
import Derived.Deep.DeepHandedRow
import Derived.Deep.DeepWitnessRowRef
import Derived.Lib.LaidTab
import Derived.Stop.LaidErr
import Derived.LaidMore
import Derived.HandedShaped
import Derived.Test.YtheobkejohifaaaGreatDoorHAA
namespace Go.Proofs.YtheobkejohifaaaGreatDoor
open Go.RowKit
set_option maxRecDepth 100000
def expN (x:Int):Nat:=(x % 1152921504606845789).toNat
theorem pe2 (x:Int):(expN x:Int)=x % 1152921504606845789:=by unfold expN;omega
theorem pgC (x:Int):expN x<1152921504606845789:=by unfold expN;omega
theorem pgD {n:Nat} (h:n<Qn):expN (n:Int)=n:=by
 have h':n<1152921504606845789:=h
 unfold expN;omega
def pqE (m k r s:Nat) (w:World) (e:Ending) (w':World):Prop:=∃ a b:Nat,Hid (a=r)∧Hid (b=s)∧a<m∧b<k∧e=.returned (.tuple #[.int .i64 (a:Int),.int .i64 (b:Int)])∧Upd [] [] w w'
def ppz (r s:Nat) (w:World) (e:Ending) (w':World):Prop:=∃ a b:Nat,Hid (a=r)∧Hid (b=s)∧a<2305843009213691579∧b<1152921504606845789∧e=.returned (.agg #[.int .i64 (a:Int),.int .i64 (b:Int)])∧Upd [] [] w w'
theorem peh (n:Nat) (w:World) (hn:n<1152921504606845789):Calls Tryz.prog 75 #[.int .i64 (n:Int)] w (fun e w'=>∃ r:Nat,Hid (r=posN n)∧0<r∧r<1152921504606845789∧e=.returned (.int .i64 (r:Int))∧w=w'):=by
 refine (phq n w).mono ?_
 rintro e w' ⟨rfl,rfl⟩
 exact ⟨_,rfl,pjM n,piN hn,rfl,rfl⟩
theorem ppA (s:ByteArray) (w:World) (hs:s.size≤140737488355000) (htab:Tabs w) :
 Calls Tryz.prog 42 #[.string s] w (pqE 1152921504606845789 2305843009213691579 (keyN (bs s)) (gP (keyN (bs s))) w):=by
 go_enter Tryz.func42,Tryz.ntmps42
 go_wp2_with fail
 have hst:=prn w ⟨#[107]⟩ s 9
 have hu0:Upd [] [] w (w.alloc (.cells #[.string ⟨#[107]⟩,.string s] 9)):=(Upd.refl _ _).alloc _
 have HST:=Lib.hid hst
 have HFL:Hid ((([⟨#[107]⟩,s]:List ByteArray).map bs).flatten=[107] ++ bs s):=by
  show _=_
  simp
  rfl
 clear hst
 refine (pdj [⟨#[107]⟩,s] w.heap.size _ _ HST.out (by simp) (by simp) (by rw [HFL.out];simp [pac];omega) (htab.upd hu0)).mono ?_
 rintro e w1 ⟨c,HC,hc,rfl,hu1⟩
 go_wp2_with fail
 refine (peh c w1 hc).mono ?_
 rintro e w2 ⟨r,HR,hr0,hr,rfl,rfl⟩
 go_wp2_with fail
 refine (pdz r w1 (by omega)).mono ?_
 rintro e w3 ⟨y,HY,hy,rfl,hu3⟩
 go_wp2_with fail
 go_ret2
 have e1:r=keyN (bs s):=by
  rw [HR.out,HC.out,HFL.out,keyN]
 exact ⟨r,y,e1,by show _=_;rw [HY.out,e1],hr,hy,rfl,(hu0.trans hu1).trans hu3⟩
set_option maxHeartbeats 1000000 in
theorem pgE (x:Int) (t:ByteArray) (w:World) (hx:-9223372036854775808≤x∧x≤9223372036854775807) (ht:t.size≤140737488355000) (htab:Tabs w) :
 Calls Tryz.prog 35 #[.int .i64 x,.string t] w (ppz (gP (nonceN (expN x) (bs t))) (sWith (expN x) (nonceN (expN x) (bs t)) (bs t)) w):=by
 obtain ⟨X,hX⟩:∃ X,X=expN x:=⟨_,rfl⟩
 have hXl:=pgC x
 rw [← hX] at hXl
 rw [← hX]
 have HX:=Lib.hid hX
 clear hX
 go_enter Tryz.func35,Tryz.ntmps35
 go_wp2_with fail
 have hu0:Upd [] [] w (w.alloc (.cells #[.int .i64 0,.int .i64 0] 46)):=(Upd.refl _ _).alloc _
 refine (plO x 0 1152921504606845789 _ hx (by omega) (by omega)).mono ?_
 rintro e w1 ⟨x1,HX1,x10,x11,rfl,rfl⟩
 have hx2:x1=(X:Int):=by rw [HX1.out,HX.out,pe2,Int.add_zero]
 subst hx2
 have hc0:(w.alloc (.cells #[.int .i64 0,.int .i64 0] 46)).heap[w.heap.size]? =some (.cells #[.int .i64 0,.int .i64 0] 46 (0,0)):=heap_alloc_new _ _
 have HC0:=Lib.hid hc0
 clear hc0 HX1
 have hg:w.heap.size<(w.alloc (.cells #[.int .i64 0,.int .i64 0] 46)).heap.size:=by simp
 generalize w.alloc (.cells #[.int .i64 0,.int .i64 0] 46)=w1 at *
 go_wp2_with fail
 refine (pe1 X w1 (by omega)).mono ?_
 rintro e w2 ⟨b1,HB1,b1l,rfl,hu2⟩
 go_wp2_with fail
 have hst:=pro w2 ⟨#[110]⟩ b1 t 9
 have hu3:Upd [] [] w2 (w2.alloc (.cells #[.string ⟨#[110]⟩,.string b1,.string t] 9)):=(Upd.refl _ _).alloc _
 have HST:=Lib.hid hst
 have HFL:Hid ((([⟨#[110]⟩,b1,t]:List ByteArray).map bs).flatten=[110] ++ len8 X ++ bs t):=by
  show _=_
  simp [HB1.out]
  rfl
 clear hst
 refine (pdj [⟨#[110]⟩,b1,t] w2.heap.size _ _ HST.out (by simp) (by simp) (by rw [HFL.out];simp [pac,pas];omega) (htab.upd (hu0.trans (hu2.trans hu3)))).mono ?_
 rintro e w4 ⟨c,HC,hc,rfl,hu4⟩
 go_wp2_with fail
 refine (peh c w4 hc).mono ?_
 rintro e w5 ⟨n,HN,hn0,hn,rfl,rfl⟩
 have hnn:n=nonceN X (bs t):=by rw [HN.out,HC.out,HFL.out,nonceN]
 have HNN:=Lib.hid hnn
 clear hnn
 go_wp2_with fail
 refine (pdz n w4 (by omega)).mono ?_
 rintro e w6 ⟨r,HR,hr,rfl,hu6⟩
 go_wp2_with fail
 refine (pdz X w6 (by omega)).mono ?_
 rintro e w7 ⟨y,HY,hy,rfl,hu7⟩
 have hu8:=((hu2.trans hu3).trans hu4).trans (hu6.trans hu7)
 go_wp2_with fail
 refine (pdA r y t w7 (by omega) (by omega) ht (htab.upd (hu0.trans hu8))).mono ?_
 rintro e w9 ⟨c2,HC2,hc2,rfl,hu9⟩
 have hu10:=hu8.trans hu9
 go_wp2_with fail
 refine (mul_any _ _ _ _ (by omega) (by omega) (by omega)).mono ?_
 rintro e w10 ⟨m1,HM1,m10,m11,rfl,rfl⟩
 go_wp2_with fail
 refine (plO _ _ _ _ (by omega) (by omega) (by omega)).mono ?_
 rintro e w10 ⟨m2,HM2,m20,m21,rfl,rfl⟩
 obtain ⟨s,rfl⟩:∃ s:Nat,m2=(s:Int):=⟨m2.toNat,by omega⟩
 have hc9:w9.heap[w.heap.size]? =some (.cells #[.int .i64 0,.int .i64 0] 46 (0,0)):=by rw [hu10.block _ hg (by simp)];exact HC0.out
 have k0:w9.cell? ⟨w.heap.size,0,none⟩=some (.int .i64 0):=by rw [cell_of_row _ _ _ _ _ _ hc9];rfl
 have k1:w9.cell? ⟨w.heap.size,1,none⟩=some (.int .i64 0):=by rw [cell_of_row _ _ _ _ _ _ hc9];rfl
 have f0:w9.frozen? ⟨w.heap.size,0,none⟩=false:=frozen_of_row _ _ _ _ _ hc9
 have f1:w9.frozen? ⟨w.heap.size,1,none⟩=false:=frozen_of_row _ _ _ _ _ hc9
 clear hc9
 go_wp2_with fail
 refine bodyPost_ret (v:=.agg #[.int .i64 (r:Int),.int .i64 (s:Int)]) (by simp [results,Tryz.results35,go_sem,k0,k1]) rfl ⟨r,s,?_,?_,hr,by omega,rfl,?_⟩
 · show _=_
   rw [HR.out,HNN.out]
 · show _=_
   have h2:=HM2.out
   rw [HM1.out,HC2.out,HR.out,HY.out,HNN.out] at h2
   rw [Int.add_emod_emod] at h2
   rw [sWith]
   have h3:((s:Nat):Int)=(((nonceN X (bs t)+X * pcF (gP (nonceN X (bs t))) (gP X) (bs t)) % Qn:Nat):Int):=by
    rw [h2];simp [Qn]
   omega
 · exact ((hu0.trans hu10).setNew (p:=⟨_,_,none⟩) (Nat.le_refl _) _).setNew (p:=⟨_,_,none⟩) (Nat.le_refl _) _
theorem pbj (a:Int) (b:Bool) (w:World) (ha:-9223372036854775808≤a∧a≤9223372036854775807) (h:memB a=b) :
 Calls Tryz.prog 181 #[.int .i64 a] w (fun e w'=>e=.returned (.bool b)∧Upd [] [] w w'):=by
 refine (pkR a w ha).mono ?_
 rintro e w' ⟨r,HR,rfl,hu⟩
 exact ⟨by rw [HR.out,h],hu⟩
structure SigAt (w wp:World) (r s:Int):Prop where
 up:Upd [] [] w wp
 row:wp.heap[w.heap.size]? =some (.cells #[.int .i64 r,.int .i64 s] 46 (0,0))
theorem SigAt.start (w:World) (r s:Int):SigAt w (w.alloc (.cells #[.int .i64 r,.int .i64 s] 46)) r s:=⟨(Upd.refl _ _).alloc _,heap_alloc_new _ _⟩
theorem SigAt.upd {w wp wq:World} {r s:Int} (h:SigAt w wp r s) (u:Upd [] [] wp wq):SigAt w wq r s :=
 ⟨h.up.trans u,by rw [u.block _ (Array.getElem?_eq_some_iff.1 h.row).1 (by simp)];exact h.row⟩
theorem SigAt.cells {w wp:World} {r s:Int} (h:SigAt w wp r s):wp.cell? ⟨w.heap.size,0,none⟩=some (.int .i64 r)∧wp.cell? ⟨w.heap.size,1,none⟩=some (.int .i64 s) :=
 ⟨by rw [cell_of_row _ _ _ _ _ _ h.row];rfl,by rw [cell_of_row _ _ _ _ _ _ h.row];rfl⟩
set_option maxHeartbeats 1000000 in
theorem pkS (p:Int) (t:ByteArray) (r s:Int) (w:World) (hp:-9223372036854775808≤p∧p≤9223372036854775807) (hr:-9223372036854775808≤r∧r≤9223372036854775807) (hs:-9223372036854775808≤s∧s≤9223372036854775807) (ht:t.size≤140737488355000) (htab:Tabs w) :
 Calls Tryz.prog 143 #[.int .i64 p,.string t,.agg #[.int .i64 r,.int .i64 s]] w (MkB (verB p (bs t) r s) w):=by
 have hu0:Upd [] [] w (w.alloc (.cells #[.int .i64 r,.int .i64 s] 46)):=(Upd.refl _ _).alloc _
 have hc0:(w.alloc (.cells #[.int .i64 r,.int .i64 s] 46)).heap[w.heap.size]? =some (.cells #[.int .i64 r,.int .i64 s] 46 (0,0)):=heap_alloc_new _ _
 have HC0:=Lib.hid hc0
 clear hc0
 have hg:w.heap.size<(w.alloc (.cells #[.int .i64 r,.int .i64 s] 46)).heap.size:=by simp
 cases hm1:memB p with
 | false =>
  have HV:Hid (verB p (bs t) r s=false):=by show _=_;simp [verB,hm1]
  have HM1:=Lib.hid hm1
  clear hm1
  go_enter Tryz.func143,Tryz.ntmps143
  go_wp2_with fail
  refine (pbj p false _ hp HM1.out).mono ?_
  rintro e w1 ⟨rfl,hu1⟩
  go_wp2_with fail
  go_ret
  exact ⟨_,HV.out.symm,rfl,hu0.trans hu1⟩
 | true =>
 have HM1:=Lib.hid hm1
 cases hm2:memB r with
 | false =>
  have HV:Hid (verB p (bs t) r s=false):=by show _=_;simp [verB,hm2]
  have HM2:=Lib.hid hm2
  clear hm1 hm2
  go_enter Tryz.func143,Tryz.ntmps143
  go_wp2_with fail
  refine (pbj p true _ hp HM1.out).mono ?_
  rintro e w1 ⟨rfl,hu1⟩
  have hc1:w1.heap[w.heap.size]? =some (.cells #[.int .i64 r,.int .i64 s] 46 (0,0)):=by rw [hu1.block _ hg (by simp)];exact HC0.out
  have k0:w1.cell? ⟨w.heap.size,0,none⟩=some (.int .i64 r):=by rw [cell_of_row _ _ _ _ _ _ hc1];rfl
  clear hc1
  go_wp2_with fail
  refine (pbj r false _ hr HM2.out).mono ?_
  rintro e w2 ⟨rfl,hu2⟩
  go_wp2_with fail
  go_ret
  exact ⟨_,HV.out.symm,rfl,(hu0.trans hu1).trans hu2⟩
 | true =>
 obtain ⟨P,rfl,hP⟩:=pcT hm1
 obtain ⟨R,rfl,hR⟩:=pcT hm2
 have HM2:=Lib.hid hm2
 clear hm1 hm2
 have hP2:P<2305843009213691579:=hP.2.1
 have hR2:R<2305843009213691579:=hR.2.1
 have HPR:=Lib.hid (And.intro hP hR)
 clear hP hR
 by_cases hs0:s<0
 · have HV:Hid (verB (P:Int) (bs t) (R:Int) s=false):=by
    show _=_
    have:decide (0≤s)=false:=by rw [decide_eq_false_iff_not];omega
    simp [verB,this]
   go_enter Tryz.func143,Tryz.ntmps143
   go_wp2_with fail
   refine (pbj P true _ hp HM1.out).mono ?_
   rintro e w1 ⟨rfl,hu1⟩
   have h1:=(SigAt.start w R s).upd hu1
   obtain ⟨k0,k1⟩:=h1.cells
   go_wp2_with fail
   refine (pbj R true _ hr HM2.out).mono ?_
   rintro e w2 ⟨rfl,hu2⟩
   have h2:=h1.upd hu2
   clear h1 k0 k1
   obtain ⟨k0,k1⟩:=h2.cells
   go_wp2_with fail
   go_ret
   exact ⟨_,HV.out.symm,rfl,h2.up⟩
 by_cases hs1:1152921504606845788<s
 · have HV:Hid (verB (P:Int) (bs t) (R:Int) s=false):=by
    show _=_
    have:decide (s<1152921504606845789)=false:=by rw [decide_eq_false_iff_not];omega
    simp [verB,this]
   go_enter Tryz.func143,Tryz.ntmps143
   go_wp2_with fail
   refine (pbj P true _ hp HM1.out).mono ?_
   rintro e w1 ⟨rfl,hu1⟩
   have h1:=(SigAt.start w R s).upd hu1
   obtain ⟨k0,k1⟩:=h1.cells
   go_wp2_with fail
   refine (pbj R true _ hr HM2.out).mono ?_
   rintro e w2 ⟨rfl,hu2⟩
   have h2:=h1.upd hu2
   clear h1 k0 k1
   obtain ⟨k0,k1⟩:=h2.cells
   go_wp2_with fail
   go_ret
   exact ⟨_,HV.out.symm,rfl,h2.up⟩
 obtain ⟨T,rfl⟩:∃ T:Nat,s=(T:Int):=⟨s.toNat,by omega⟩
 go_enter Tryz.func143,Tryz.ntmps143
 go_wp2_with fail
 refine (pbj P true _ hp HM1.out).mono ?_
 rintro e w1 ⟨rfl,hu1⟩
 have h1:=(SigAt.start w R T).upd hu1
 obtain ⟨k0,k1⟩:=h1.cells
 go_wp2_with fail
 refine (pbj R true _ hr HM2.out).mono ?_
 rintro e w2 ⟨rfl,hu2⟩
 have h2:=h1.upd hu2
 clear h1 k0 k1
 obtain ⟨k0,k1⟩:=h2.cells
 go_wp2_with fail
 refine (pdA R P t w2 (by omega) (by omega) ht (htab.upd h2.up)).mono ?_
 rintro e w3 ⟨c,HC,hc,rfl,hu3⟩
 have h3:=h2.upd hu3
 clear h2 k0 k1
 have h4:=h3.upd (Upd.refl _ _).drew
 have k4:=h4.cells
 go_wp2_with fail
 clear h3 HC0
 go_region_held3 (fun wp=>wp.cell? ⟨w.heap.size,0,none⟩=some (.int .i64 (R:Int))∧wp.cell? ⟨w.heap.size,1,none⟩=some (.int .i64 (T:Int))) (first | exact k4 | assumption)
  (first
   | (go_at_call 78;((with_reducible refine (pdz T _ (by omega)).mono ?_);rintro e wq ⟨y1,HY1,hy1,rfl,hq⟩;have g1:=h4.upd hq;have kq:=g1.cells;clear hq))
   | (go_at_call 135;((with_reducible refine (pgz P 2305843009213691579 c _ (by omega) (by omega) (by omega)).mono ?_);rintro e wq ⟨y2,HY2,y20,y21,rfl,hq⟩;have g2:=g1.upd hq;have kq:=g2.cells;clear hq))
   | (go_at_call 80;((with_reducible refine (mul_any R y2 2305843009213691579 _ (by omega) (by omega) (by omega)).mono ?_);rintro e wq ⟨y3,HY3,y30,y31,rfl,rfl⟩)))
 go_wp2_with fail
 go_ret
 refine ⟨_,?_,rfl,g2.up⟩
 show _=_
 have e1:=HY3.out
 rw [HY2.out,HC.out] at e1
 have e2:powZ 4 T 2305843009213691579=((gP T:Nat):Int):=pbW 4 T
 have e3:decide (0≤(T:Int))=true:=by rw [decide_eq_true_iff];omega
 have e4:decide ((T:Int)<1152921504606845789)=true:=by rw [decide_eq_true_iff];omega
 unfold verB
 rw [HM1.out,HM2.out,e3,e4,Int.toNat_natCast,Int.toNat_natCast,Int.toNat_natCast,e2,← e1,← HY1.out]
 rfl
end Go.Proofs.YtheobkejohifaaaGreatDoor

namespace Go.Proofs.YtheobkejohifaaaGreatDoor
set_option maxRecDepth 100000
open Go
theorem pfW (c:UInt8) (d:Nat) (hc:c.toNat=48+d) (hd:d<10):∀ (l:List UInt8) (acc v:Nat),Lib.parseUint10 acc l=.ok v→v<1844674407370955162→v * 10+d<18446744073709551616→Lib.parseUint10 acc (l ++ [c])=.ok (v * 10+d)
 | [],acc,v,h,h1,h2=>by
  simp only [Lib.parseUint10] at h
  injection h with h
  subst h
  simp only [List.nil_append,Lib.parseUint10]
  rw [if_pos (by omega),if_neg (by omega),if_neg (by omega),show c.toNat - 48=d by omega]
 | x :: r,acc,v,h,h1,h2=>by
  simp only [List.cons_append,Lib.parseUint10] at h ⊢
  split at h
  · rename_i hx
    rw [if_pos hx]
    split at h
    · cases h
    · rename_i hy
      rw [if_neg hy]
      split at h
      · cases h
      · rename_i hz
        rw [if_neg hz]
        exact pfW c d hc hd r _ v h h1 h2
  · cases h
theorem pbX {d:Nat} (h:d<10):(UInt8.ofNat (48+d)).toNat=48+d:=by
 rw [UInt8.toNat_ofNat'];omega
theorem phr:∀ u:Nat,u<18446744073709551616→Lib.parseUint10 0 (Lib.decDigits u)=.ok u:=by
 intro u
 induction u using Nat.strongRecOn with
 | ind u ih =>
  intro hu
  rw [Lib.decDigits]
  by_cases h:u<10
  · rw [dif_pos h]
    simp only [Lib.parseUint10]
    rw [pbX h,if_pos (by omega),if_neg (by omega),if_neg (by omega)]
    congr 1
    omega
  · rw [dif_neg h]
    have:=pfW _ (u % 10) (pbX (by omega)) (by omega) (Lib.decDigits (u / 10)) 0 (u / 10) (ih (u / 10) (by omega) (by omega)) (by omega) (by omega)
    rw [this]
    congr 1
    omega
theorem pdU:∀ (u:Nat),∀ c∈Lib.decDigits u,48≤c.toNat∧c.toNat≤57:=by
 intro u
 induction u using Nat.strongRecOn with
 | ind u ih =>
  intro c hc
  rw [Lib.decDigits] at hc
  by_cases h:u<10
  · rw [dif_pos h] at hc
    simp only [List.mem_singleton] at hc
    subst hc
    rw [pbX h];omega
  · rw [dif_neg h] at hc
    simp only [List.mem_append,List.mem_singleton] at hc
    rcases hc with hc | hc
    · exact ih (u / 10) (by omega) c hc
    · subst hc
      rw [pbX (by omega)];omega
theorem pjP (u:Nat):Lib.decDigits u≠[]:=by
 rw [Lib.decDigits]
 split <;> simp
def pab (n:Int):Prop:=-9223372036854775808≤n∧n≤9223372036854775807
theorem paH (n:Int) (h:pab n):Lib.atoiAll (Lib.itoa n)=.ok n:=by
 unfold pab at h
 unfold Lib.itoa
 split
 · rename_i hn
   rw [Lib.atoiAll_minus,Lib.parseMag,if_neg (pjP _),phr _ (by omega),Lib.signed,if_neg (by omega)]
   congr 1
   omega
 · rename_i hn
   obtain ⟨c,r,hcr⟩:∃ c r,Lib.decDigits n.toNat=c :: r:=by
    cases hd:Lib.decDigits n.toNat with
    | nil=>exact absurd hd (pjP _)
    | cons c r=>exact ⟨c,r,rfl⟩
   have hc:=pdU n.toNat c (by rw [hcr];simp)
   rw [hcr,Lib.atoiAll_plain c r (by omega) (by omega),← hcr,Lib.parseMag,if_neg (pjP _),phr _ (by omega),Lib.signless,if_neg (by omega)]
   congr 1
   omega
theorem paI {a b:Int} (ha:pab a) (hb:pab b) (h:Lib.itoa a=Lib.itoa b):a=b:=by
 have h1:=paH a ha
 rw [h,paH b hb] at h1
 injection h1 with h1
 exact h1.symm
theorem pe3:∀ (k u:Nat),u<10 ^ (k+1)→(Lib.decDigits u).length≤k+1
 | 0,u,h=>by
  rw [Lib.decDigits,dif_pos (by simpa using h)];simp
 | k+1,u,h=>by
  rw [Lib.decDigits]
  split
  · simp
  · have:=pe3 k (u / 10) (by rw [Nat.pow_succ] at h;omega)
    simp;omega
theorem itoa_len (n:Int) (h:pab n):(Lib.itoa n).length≤20:=by
 unfold pab at h
 unfold Lib.itoa
 have e:(10:Nat) ^ 19=10000000000000000000:=by decide
 split
 · have:=pe3 18 n.natAbs (by rw [e];omega)
   simp;omega
 · have:=pe3 18 n.toNat (by rw [e];omega)
   omega
theorem pdV (c:UInt8):∀ (a b:List UInt8),c ∉ a→Lib.index (a ++ c :: b) [c]=(a.length:Int)
 | [],b,_=>by simp [Lib.index]
 | x :: a,b,h=>by
  have hx:c≠x:=fun e=>h (by simp [e])
  have ih:=pdV c a b (fun e=>h (by simp [e]))
  simp only [List.cons_append,Lib.index]
  rw [ih]
  have h1:([c]:List UInt8).isPrefixOf (x :: (a ++ c :: b))=false:=by simp [List.isPrefixOf,hx]
  have h2:((a.length:Int) == -1)=false:=by rw [beq_eq_false_iff_ne];omega
  rw [h1,h2]
  simp
theorem pe4 (c:UInt8):∀ (a:List UInt8),c ∉ a→Lib.index a [c]=-1
 | [],_=>rfl
 | x :: a,h=>by
  have hx:c≠x:=fun e=>h (by simp [e])
  have ih:=pe4 c a (fun e=>h (by simp [e]))
  simp only [Lib.index]
  rw [ih]
  have h1:([c]:List UInt8).isPrefixOf (x :: a)=false:=by simp [List.isPrefixOf,hx]
  rw [h1]
  simp
theorem pbf (c:UInt8) (a b:List UInt8) (h:c ∉ a):Lib.cut (a ++ c :: b) [c]=(a,b,true):=by
 unfold Lib.cut
 rw [pdV c a b h,if_pos (by omega),Int.toNat_natCast]
 have h1:(a ++ c :: b).take a.length=a:=List.take_left
 have h2:(a ++ c :: b).drop (a.length+[c].length)=b:=by
  rw [show a ++ c :: b=(a ++ [c]) ++ b by simp,show a.length+[c].length=(a ++ [c]).length by simp]
  exact List.drop_left
 rw [h1,h2]
theorem pn5 (c:UInt8) (a:List UInt8) (h:c ∉ a):Lib.cut a [c]=(a,[],false):=by
 unfold Lib.cut
 rw [pe4 c a h,if_neg (by omega)]
def pn6 (a b:Int):List UInt8:=Lib.itoa a ++ [46] ++ Lib.itoa b
end Go.Proofs.YtheobkejohifaaaGreatDoor

namespace Go.Proofs.YtheobkejohifaaaGreatDoor
open Go.RowKit
set_option maxRecDepth 100000
theorem pn7 (os:Array Obj) (w:World):Upd [] [] w (Go.Sort.grow w os) :=
 ⟨rfl,rfl,rfl,by simp [Go.Sort.grow],fun k hk _=>by simp [Go.Sort.grow,Array.getElem?_append,hk],fun _ hk=>absurd hk (by simp)⟩
theorem paD (n:Int) (w:World) (hn:pab n) (htab:Tabs w):Calls Tryz.prog 36 #[.int .i64 n] w (MkS (Lib.itoa n) w):=by
 refine (Tryz.strconv_Itoa n hn.1 hn.2 w htab.p).mono ?_
 rintro e w' ⟨rfl,k,os,rfl⟩
 exact ⟨⟨(Lib.itoa n).toArray⟩,rfl,Nat.le_refl _,rfl,((Upd.refl [] w).drewN k).trans (pn7 os _)⟩
theorem plR (w:World) (e:TypeId) (t:ByteArray):Upd [] [] w (Lib.bytesWorld w e t):=by
 exact paA (Lib.bytesWorld_below _ _ _)
theorem pdW (s:ByteArray) (v:Int) (w:World) (hs:s.size≤140737488355000) (h:Lib.atoiAll (bs s)=.ok v) :
 Calls Tryz.prog 215 #[.string s] w (fun e w'=>e=.returned (.tuple #[.int .i64 v,.nilIface])∧Upd [] [] w w'):=by
 refine (Tryz.strconv_Atoi_ok s (by omega) v h w).mono ?_
 rintro e w' ⟨rfl,hw⟩
 refine ⟨rfl,?_⟩
 rcases hw with rfl | ⟨t,rfl⟩
 · exact Upd.refl _ _
 · exact plR _ _ _
def ppB (w:World) (e:Ending) (w':World):Prop:=∃ (v:Int) (N:Nat),e=.returned (.tuple #[.int .i64 v,.iface 303 (.pointer (some ⟨N,0,none⟩))])∧pab v∧Upd [] [] w w'
theorem pcU (s:ByteArray) (w:World) (hs:s.size≤140737488355000) (h:∀ v,Lib.atoiAll (bs s)≠.ok v) (htab:Tabs w) :
 Calls Tryz.prog 215 #[.string s] w (ppB w):=by
 cases hq:Lib.atoiAll (bs s) with
 | ok v=>exact absurd hq (h v)
 | «syntax» =>
  obtain ⟨tp,p,hv⟩:=htab.es
  refine (Tryz.strconv_Atoi_syntax_var s (by omega) hq tp p w hv).mono ?_
  rintro e w' ⟨N,rfl,_,_,hb⟩
  exact ⟨0,N,rfl,⟨by omega,by omega⟩,paA hb⟩
 | range =>
  obtain ⟨tp,p,hv⟩:=htab.er
  refine (Tryz.strconv_Atoi_range_var s (by omega) hq tp p w hv).mono ?_
  rintro e w' ⟨N,rfl,_,_,hb⟩
  refine ⟨_,N,rfl,?_,paA hb⟩
  unfold Lib.atoiSat pab
  split <;> omega
theorem SigAt.free {w wp:World} {r s:Int} (h:SigAt w wp r s):wp.frozen? ⟨w.heap.size,0,none⟩=false∧wp.frozen? ⟨w.heap.size,1,none⟩=false :=
 ⟨frozen_of_row _ _ _ _ _ h.row,frozen_of_row _ _ _ _ _ h.row⟩
theorem paM {a b:ByteArray} (h:bs a=bs b):a=b:=by
 cases a;cases b
 simp only [bs,Array.toList_inj] at h
 rw [h]
end Go.Proofs.YtheobkejohifaaaGreatDoor

namespace Go.Proofs.YtheobkejohifaaaGreatDoor
open Go.ChangeShapes Go.WideShapes Go.ChangeAt Go.RowKit
set_option maxRecDepth 100000
theorem pn8:ownKnob Tryz.prog.godebug=none:=by kernel_rfl
theorem pgF:laidOutB Tryz.prog=true:=by kernel_rfl
def ppC:List (String × DataW Unit):=Rows.courtHonestRow.laid
theorem gP10 : Tryz.prog.globalNamed "internal/strconv.uint64pow10" = some 0 := by kernel_rfl
theorem gER : Tryz.prog.globalNamed "strconv.ErrRange" = some 9 := by kernel_rfl
theorem gES : Tryz.prog.globalNamed "strconv.ErrSyntax" = some 8 := by kernel_rfl
theorem pqF : ("*" ++ "errors.errorString" : String) = "*errors.errorString" := by decide
theorem rowE (u : TypeId) (h : Tryz.prog.typeName? 3 u = some "*errors.errorString") : u = 320 :=
 typeName_ptr_named (nm := "errors.errorString") (by rw [pqF]; kernel_rfl) (by kernel_rfl) (by decide) u (by rw [pqF]; exact h)
theorem phs {W:World} (h:laidMetH Tryz.prog ppC W) (hsh:W.ShapedOpen Tryz.prog):Tabs W:=by
 have h0:laidMet Tryz.prog ppC W:=h
 have h3:=h0.tail.tail
 have h3x:=h3
 have h3x:=h3.tail
 have h4:=h3x.tail
 have h5:=h4.tail
 have h6:=h5.tail
 have h7:=h6.tail
 obtain ⟨a1,s1,hv1,_⟩:=laid_sentinel h4 gER (by kernel_rfl) Tryz.underlying143 rowE Tryz.underlying320 Tryz.underlying322 rfl rfl Tryz.underlying9 (by kernel_rfl) (by kernel_rfl)
 obtain ⟨a2,s2,hv2,_⟩:=laid_sentinel h5 gES (by kernel_rfl) Tryz.underlying143 rowE Tryz.underlying320 Tryz.underlying322 rfl rfl Tryz.underlying9 (by kernel_rfl) (by kernel_rfl)
 refine ⟨?_,?_,?_,⟨_,_,hv1⟩,⟨_,_,hv2⟩,?_⟩
 · exact Lib.tabIs_of_head (rest:=_) gK (by kernel_rfl) Tryz.underlying248 Tryz.underlying129 (by kernel_rfl) (by kernel_rfl) h7
 · exact Lib.tabIs_of_head (rest:=_) gF (by kernel_rfl) Tryz.underlying206 Tryz.underlying129 (by kernel_rfl) (by kernel_rfl) h6
 · exact Lib.tabIs_of_head (rest:=_) gP10 (by kernel_rfl) Tryz.underlying256 Tryz.underlying88 (by kernel_rfl) (by kernel_rfl) h3
 · exact Go.Proofs.cell_of_shapedOpen_int (zero:=#[.int .i64 0]) (t:=3) hsh (of_decide_eq_true (by kernel_rfl)) (by kernel_rfl) rfl (by kernel_rfl) (by kernel_rfl) Tryz.underlying3
end Go.Proofs.YtheobkejohifaaaGreatDoor

namespace Go.Proofs.YtheobkejohifaaaGreatDoor
open Go.RowKit
set_option maxRecDepth 100000
theorem pht {w w':World} (h:Upd [] [] w w'):Below w.heap.size w w':=⟨h.os,h.tape,h.output,h.size,fun k hk=>h.block k hk (by simp)⟩
end Go.Proofs.YtheobkejohifaaaGreatDoor

namespace Go.Proofs.YtheobkejohifaaaGreatDoor
open Go.ChangeShapes Go.WideShapes Go.ChangeAt Go.RowKit Go.Deep Go.Joins
set_option maxRecDepth 100000
inductive Kd where
 | i (k:IntKind)
 | s
 | b
def Kd.ok:Kd→Value→Prop
 | .i k,v=>∃ n:Int,v=.int k n∧(Lit.int k n).wf=true
 | .s,v=>∃ s:ByteArray,v=.string s∧s.size≤maxLen
 | .b,v=>∃ b:Bool,v=.bool b
def plS (P:Program) (fl:TypeId→Option (List Kd)):Nat→List Field→Option (List Kd)
 | _,[]=>some []
 | off,f :: r=>match fl f.type with
  | some l=>if f.offset=off∧l.length=P.cellsOf f.type then (plS P fl (off+l.length) r).map (l ++ ·) else none
  | none=>none
def flatK (P:Program):Nat→TypeId→Option (List Kd)
 | 0,_=>none
 | f+1,t=>match P.underlying t with
  | some (.int k)=>some [.i k]
  | some .string=>some [.s]
  | some .bool=>some [.b]
  | some (.array n e)=>match flatK P f e with
   | some l=>if l.length=P.cellsOf e∧n * l.length=P.cellsOf t∧0<l.length then some (List.replicate n l).flatten else none
   | none=>none
  | some (.struct fs)=>match plS P (flatK P f) 0 fs.toList with
   | some l=>if l.length=P.cellsOf t then some l else none
   | none=>none
  | _=>none
def Mt (ks:List Kd) (cs:List Value):Prop:=cs.length=ks.length∧∀ (i:Nat) k,ks[i]? =some k→∃ v,cs[i]? =some v∧k.ok v
theorem Mt.one {k:Kd} {v:Value} (h:k.ok v):Mt [k] [v]:=by
 refine ⟨rfl,fun i k' hi=>?_⟩
 cases i with
 | zero=>simp at hi;subst hi;exact ⟨v,rfl,h⟩
 | succ i=>simp at hi
theorem pe5 {α:Type} (l:List α) (m:Nat) (hm:l.length=m) (h0:0<m):∀ (n i:Nat) (a:α),(List.replicate n l).flatten[i]? =some a→i / m<n∧l[i % m]? =some a
 | 0,i,a,h=>by simp at h
 | n+1,i,a,h=>by
  rw [List.replicate_succ,List.flatten_cons] at h
  by_cases hi:i<m
  · rw [List.getElem?_append_left (by omega)] at h
    rw [Nat.div_eq_of_lt hi,Nat.mod_eq_of_lt hi]
    exact ⟨by omega,h⟩
  · rw [List.getElem?_append_right (by omega),hm] at h
    have ih:=pe5 l m hm h0 n (i - m) a h
    have e1:i / m=(i - m) / m+1:=by rw [Nat.div_eq_sub_div h0 (by omega)]
    have e2:i % m=(i - m) % m:=by rw [Nat.mod_eq_sub_mod (by omega)]
    rw [e1,e2]
    exact ⟨by omega,ih.2⟩
theorem phu {cs:List Value} {off sz j:Nat} {v:Value} (h:((cs.drop off).take sz)[j]? =some v):cs[off+j]? =some v:=by
 rw [List.getElem?_take] at h
 split at h
 · rw [List.getElem?_drop] at h;exact h
 · cases h
section
variable {H : Type} {enc : TypeId × Value → H} {P : Program} {w : World} {base : Nat} {sp : Nat → Bool} {hd : Bool}
theorem pjQ {fl:TypeId→Option (List Kd)} {cs:List Value}:∀ (fs:List Field) (off:Nat) (ks:List Kd),plS P fl off fs=some ks →
 (∀ f∈fs,∀ l,fl f.type=some l→Mt l ((cs.drop f.offset).take (P.cellsOf f.type)))→∀ (i:Nat) k,ks[i]? =some k→∃ v,cs[off+i]? =some v∧k.ok v
 | [],off,ks,h,_,i,k,hi=>by
  simp only [plS,Option.some.injEq] at h
  subst h
  simp at hi
 | f :: r,off,ks,h,hf,i,k,hi=>by
  simp only [plS] at h
  split at h
  · rename_i l hl
    split at h
    · rename_i hc
      obtain ⟨ks',hk',rfl⟩:=Option.map_eq_some_iff.1 h
      by_cases hil:i<l.length
      · rw [List.getElem?_append_left hil] at hi
        obtain ⟨v,hv,hok⟩:=(hf f (by simp) l hl).2 i k hi
        have:=phu hv
        rw [hc.1] at this
        exact ⟨v,this,hok⟩
      · rw [List.getElem?_append_right (by omega)] at hi
        obtain ⟨v,hv,hok⟩:=pjQ r (off+l.length) ks' hk' (fun f' hf'=>hf f' (by simp [hf'])) (i - l.length) k hi
        rw [show off+l.length+(i - l.length)=off+i by omega] at hv
        exact ⟨v,hv,hok⟩
    · cases h
  · cases h
theorem peG:∀ (f:Nat) (t:TypeId) (ks:List Kd) (fuel:Nat) (cs:List Value) (x:DataW H × List MemPlace),flatK P f t=some ks→DataW.trod enc P w base sp hd fuel t cs=some x→Mt ks cs
 | 0,t,ks,fuel,cs,x,h,_=>by simp [flatK] at h
 | f+1,t,ks,fuel,cs,x,h,hx=>by
  simp only [flatK] at h
  split at h
  · rename_i k hu
    obtain ⟨n,rfl,_,hw⟩:=DataW.trod_int hu hx
    simp only [Option.some.injEq] at h
    subst h
    exact Mt.one ⟨n,rfl,hw⟩
  · rename_i hu
    obtain ⟨s,rfl,_,hs⟩:=DataW.trod_string hu hx
    simp only [Option.some.injEq] at h
    subst h
    exact Mt.one ⟨s,rfl,hs⟩
  · rename_i hu
    obtain ⟨b,rfl,_⟩:=DataW.trod_bool hu hx
    simp only [Option.some.injEq] at h
    subst h
    exact Mt.one ⟨b,rfl⟩
  · rename_i n e hu
    split at h
    · rename_i l hl
      split at h
      · rename_i hc
        simp only [Option.some.injEq] at h
        subst h
        obtain ⟨xs,m,_,_,hlen,hxl,hi⟩:=DataW.trod_array hu hx
        refine ⟨by rw [hlen,← hc.2.1];simp,fun i k hk=>?_⟩
        obtain ⟨hq,hr⟩:=pe5 l (P.cellsOf e) hc.1 (by omega) n i k hk
        have h1:=hi (i / P.cellsOf e) hq
        have e0:xs[i / P.cellsOf e]? =some (xs[i / P.cellsOf e]'(by omega)):=List.getElem?_eq_getElem (by omega)
        rw [e0] at h1
        obtain ⟨v,hv,hok⟩:=(peG f e l m _ _ hl h1).2 (i % P.cellsOf e) k hr
        have:=phu hv
        rw [Nat.mul_comm,Nat.div_add_mod] at this
        exact ⟨v,this,hok⟩
      · cases h
    · cases h
  · rename_i fs hu
    split at h
    · rename_i l hl
      split at h
      · rename_i hc
        simp only [Option.some.injEq] at h
        subst h
        obtain ⟨xs,m,_,_,hlen,hxl,hi⟩:=DataW.trod_struct hu hx
        refine ⟨by rw [hlen,hc],fun i k hk=>?_⟩
        have:=pjQ fs.toList 0 l hl (fun fd hfd lf hlf=>by
         obtain ⟨j,hj⟩:=List.getElem?_of_mem hfd
         have h1:=hi j fd (by simpa using hj)
         have hjl:j<xs.length:=by
          have:=(List.getElem?_eq_some_iff.1 hj).1
          simp at this
          omega
         have e0:xs[j]? =some (xs[j]'hjl):=List.getElem?_eq_getElem hjl
         rw [e0] at h1
         exact peG f fd.type lf m _ _ hlf h1) i k hk
        rw [Nat.zero_add] at this
        exact this
      · cases h
    · cases h
  · cases h
theorem plT {t:TypeId} {v:Value} {d:DataW H} {p:List MemPlace} {ks:List Kd} {r:Reach} {b0:Nat} (f:Nat) (hk:flatK P f t=some ks) (hv:Value.okWide P w r b0 t v) (h:DataW.Trod enc P w base sp hd t v d p) (ha:(∃ n e,P.underlying t=some (.array n e))∨∃ fs,P.underlying t=some (.struct fs)) :
 ∃ cs:Array Value,v=.agg cs∧Mt ks cs.toList:=by
 obtain ⟨fuel,hf⟩:=h
 have hm:=peG f t ks fuel _ _ hk hf
 rcases ha with ⟨n,e,hu⟩ | ⟨fs,hu⟩
 · simp only [Value.okWide,hu] at hv
   obtain ⟨cs,rfl,_⟩:=hv
   exact ⟨cs,rfl,hm⟩
 · simp only [Value.okWide,hu] at hv
   obtain ⟨cs,rfl,_⟩:=hv
   exact ⟨cs,rfl,hm⟩
theorem Mt.i64 {ks:List Kd} {cs:List Value} (h:Mt ks cs) {i:Nat} (hk:ks[i]? =some (.i .i64)):∃ n:Int,cs[i]? =some (.int .i64 n)∧-9223372036854775808≤n∧n≤9223372036854775807:=by
 obtain ⟨v,hv,n,rfl,hw⟩:=h.2 i _ hk
 exact ⟨n,hv,bounds_i64 hw⟩
theorem Mt.u8 {ks:List Kd} {cs:List Value} (h:Mt ks cs) {i:Nat} (hk:ks[i]? =some (.i .u8)):∃ n:Int,cs[i]? =some (.int .u8 n)∧0≤n∧n≤255:=by
 obtain ⟨v,hv,n,rfl,hw⟩:=h.2 i _ hk
 exact ⟨n,hv,bounds_u8 hw⟩
end
end Go.Proofs.YtheobkejohifaaaGreatDoor

namespace Go.Proofs.YtheobkejohifaaaGreatDoor
open Go.ChangeShapes Go.WideShapes Go.ChangeAt Go.RowKit Go.Deep Go.Joins
set_option maxRecDepth 100000
theorem pkT (b off j:Nat):(⟨b,off,none⟩:Addr).add j=⟨b,off+j,none⟩:=by unfold Addr.add;split <;> simp_all
theorem pkU {w:World} {a:Addr} {v:Value} (h:w.cell? (a.add 0)=some v):a.spot=none:=by
 have e:a.add 0=a:=by simp [Addr.add]
 rw [e] at h
 unfold World.cell? at h
 cases hs:a.spot with
 | none=>rfl
 | some s =>
  rw [hs] at h
  split at h <;> simp at h
theorem pn9 {w:World} {g o:Nat} {v:Value} (h:w.cell? ⟨g,o,none⟩=some v):g<w.heap.size:=by
 unfold World.cell? at h
 by_cases hg:g<w.heap.size
 · exact hg
 · rw [Array.getElem?_eq_none (by show w.heap.size≤g;omega)] at h
   simp at h
section
variable {H : Type} {enc : TypeId × Value → H} {w : World}
theorem plU {t e:TypeId} {ks:List Kd} {v:Value} {d:DataW H} {p:List MemPlace} {r:Reach} {b0:Nat} (hu:Tryz.prog.underlying t=some (.slice e)) (hk:flatK Tryz.prog 8 e=some ks) (hks:0<ks.length) (hc:Tryz.prog.cellsOf e=ks.length) (hv:Value.okWide Tryz.prog w r b0 t v) (h:DataW.Trod enc Tryz.prog w 0 (fun _=>true) true t v d p) :
 ∃ ao len cap,v=.slice ao len cap∧len≤cap∧cap≤9223372036854775807∧(len=0∨∃ b off,ao=some ⟨b,off,none⟩∧b<w.heap.size∧∀ i,i<len→∃ cs:List Value,Mt ks cs∧∀ j u,cs[j]? =some u→w.cell? ⟨b,off+i * ks.length+j,none⟩=some u):=by
 obtain ⟨a,len,cap,rfl⟩:=okWide_slice hu hv
 obtain ⟨fuel,hf⟩:=h
 rcases open_slice hu hf with ⟨hcs,_⟩ | ⟨x,l,c,m,n,D,Pl,hcs,_,hl,hm,hmm,_,hi⟩
 · simp [Value.cells] at hcs
   obtain ⟨rfl,rfl,rfl⟩:=hcs
   exact ⟨none,0,0,rfl,by simp,by simp,.inl rfl⟩
 · simp [Value.cells] at hcs
   obtain ⟨rfl,rfl,rfl⟩:=hcs
   simp only [if_true] at hmm
   rw [hmm] at hi
   refine ⟨some x,len,cap,rfl,hl,hm,?_⟩
   by_cases h0:len=0
   · exact .inl h0
   · right
     have hA:∀ i,i<len→∃ cs:List Value,Mt ks cs∧∀ j u,cs[j]? =some u→w.cell? (x.add (i * ks.length+j))=some u:=by
      intro i hil
      obtain ⟨cs',hcc,ht⟩:=hi i (by omega)
      rw [hc] at hcc
      have hM:=peG 8 e ks _ _ _ hk ht
      refine ⟨cs',hM,fun j u hj=>?_⟩
      obtain ⟨_,_,hat⟩:=World.cells?_some hcc
      have hjl:j<ks.length:=by
       have:=(List.getElem?_eq_some_iff.1 hj).1
       rw [hM.1] at this
       exact this
      have g0:=hat j hjl
      rw [add_add] at g0
      exact g0.trans hj
     obtain ⟨cs0,hm0,hc0⟩:=hA 0 (by omega)
     obtain ⟨u0,hu0⟩:∃ u,cs0[0]? =some u:=⟨_,List.getElem?_eq_getElem (by rw [hm0.1];exact hks)⟩
     have z0:=hc0 0 u0 hu0
     rw [Nat.zero_mul] at z0
     have hs:=pkU z0
     obtain ⟨b,off,s⟩:=x
     simp only at hs
     subst hs
     simp only [pkT] at hA z0
     refine ⟨b,off,rfl,pn9 z0,fun i hi2=>?_⟩
     obtain ⟨cs,h1,h2⟩:=hA i hi2
     exact ⟨cs,h1,fun j u hj=>by rw [Nat.add_assoc];exact h2 j u hj⟩
end
end Go.Proofs.YtheobkejohifaaaGreatDoor

namespace Go.Proofs.YtheobkejohifaaaGreatDoor
open Go.RowKit
set_option maxRecDepth 100000
theorem pag {w:World} {b:Nat} {o:Obj} (h:w.heap[b]? =some o):b<w.heap.size:=(Array.getElem?_eq_some_iff.1 h).1
def pcv (ss:List (List UInt8)):List Value:=ss.map strV
def paN (w:World) (v:Value) (ss:List (List UInt8)):Prop:=w.ownsRow 0 9 1 v ss.length (pcv ss)
theorem poa:(Tryz.prog.info? 9).map (fun i=>(i.zero,i.size,i.bytes))=some (some (.string ⟨#[]⟩),1,16):=by kernel_rfl
theorem paN.same {w w':World} {v:Value} {ss:List (List UInt8)} (h:paN w v ss) (hs:∀ k,k∈foot v→w'.heap[k]? =w.heap[k]?):paN w' v ss:=pai h hs
theorem paN.lt {w:World} {v:Value} {ss:List (List UInt8)} (h:paN w v ss):∀ k,k∈foot v→k<w.heap.size:=paf h
theorem pcV (w:World):paN w (.slice none 0 0) []:=World.ownsRow_nil _ _ _ _
theorem pbp (w:World) (v:Value) (ss:List (List UInt8)) (r:ByteArray) (h:paN w v ss) (hl:ss.length≤1099511627776) :
 ∃ v' w1,(Builtin.append_ #[92,92] 92 #[v,.slice (some ⟨w.heap.size,0,none⟩) 1 1]).run Tryz.prog (w.alloc (.cells #[.string r] 9))=.ok v' w1 ∧
  paN w1 v' (ss ++ [bs r])∧Upd (foot v) (foot v') w w1:=by
 obtain ⟨i0,hi,hz0,hz1,hz2⟩:=info_parts poa
 obtain ⟨v',w1,hr,hrow,hup⟩:=paY (P:=Tryz.prog) (w.alloc (.cells #[.string r] 9)) 92 92 9 i0 _ 1 16 Tryz.underlying92 hi hz0 hz1 hz2 rfl (by omega) v ss.length (pcv ss)
  (pai h (fun k hk=>Below.heap_alloc _ _ _ (h.lt k hk))) ⟨w.heap.size,0,none⟩ 1 1 [.string r] rfl
  (by intro j u hj;match j,hj with
      | 0,hj=>simp at hj;subst hj;simp [Addr.add])
  (by intro u hu;simp at hu;subst hu;rfl) (by omega) (by simp [maxLen];omega)
 refine ⟨v',w1,hr,?_,hup.fore⟩
 unfold paN
 have e:pcv (ss ++ [bs r])=pcv ss ++ [.string r]:=by simp [pcv,ppt]
 rw [e,List.length_append]
 exact hrow
theorem Upd.past {a b c:World} {T S S':List Nat} (u:Upd T T a b) (v:Upd S S' b c) (hS:∀ k,k∈S→a.heap.size≤k):Upd T T a c :=
 ⟨v.os.trans u.os,v.tape.trans u.tape,v.output.trans u.output,Nat.le_trans u.size v.size,fun k hk hn=>(v.block k (Nat.lt_of_lt_of_le hk u.size) (fun hm=>by have:=hS k hm;omega)).trans (u.block k hk hn),fun _ hk=>.inl hk⟩
theorem Upd.widen {w w':World} {S K:List Nat} (h:Upd S S w w') (hS:∀ k,k∈S→k∈K):Upd K K w w':=⟨h.os,h.tape,h.output,h.size,fun k hk hn=>h.block k hk (fun hm=>hn (hS k hm)),fun _ hk=>.inl hk⟩
theorem Upd.setCellsIn {S S':List Nat} {a:World} {g:Nat} (hg:g∈S):∀ (V:List Value) (o:Nat) (b:World),Upd S S' a b→Upd S S' a (b.setCells g o V)
 | [],_,_,h=>h
 | v :: V,o,b,h=>by
  rw [World.setCells]
  exact Upd.setCellsIn hg V (o+1) _ (h.setCell (p:=⟨g,o,none⟩) hg v)
theorem pbM {w:World} {g:Nat} {l:List Value} {t:TypeId} {R:Array Value} (hR:R=l.toArray) (h:w.heap[g]? =some (.cells R t (0,0))):w.rangeAt g 0 l:=by
 intro j v hv
 rw [Nat.zero_add,cell_of_row _ _ _ _ _ _ h,hR,List.getElem?_toArray]
 exact hv
end Go.Proofs.YtheobkejohifaaaGreatDoor
