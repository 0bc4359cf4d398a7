/- What sortesref01.Parse takes: digits, plainly and what follows. -/
import Derived.Test.YtheobkejohifaaaGreatDoorHAI
import Derived.Test.YtheobkejohifaaaGreatDoorHAE
import Derived.Test.YtheobkejohifaaaGreatDoorHAA
import Derived.Test.YtheobkejohifaaaGreatDoorHAG
import Derived.Test.YtheobkejohifaaaGreatDoorShelfC
namespace Go.Proofs.YtheobkejohifaaaGreatDoor
open Go.RowKit
set_option maxRecDepth 100000
def prS (l:List UInt8):Prop:=∀ c∈l,48≤c.toNat∧c.toNat≤57
def ParR (l:List UInt8) (r:ByteArray) (ok:Bool):Prop:=(ok=true∧∃ x,bs r=be x∧l=Lib.decDigits x)∨(ok=false∧∀ x,l≠Lib.decDigits x)
set_option maxHeartbeats 1000000 in
theorem phG (x:Int) (t:ByteArray) (n:Nat) (w:World) (hx:-9223372036854775808≤x∧x≤9223372036854775807) (ht:t.size≤140737488355000) (hn:n<1152921504606845789) :
 Calls Tryz.prog 123 #[.int .i64 x,.string t,.int .i64 (n:Int)] w (ppz (gP n) (sWith (expN x) n (bs t)) w):=by
 obtain ⟨X,hX⟩:∃ X,X=expN x:=⟨_,rfl⟩
 have hXl:=pgC x
 rw [← hX] at hXl
 rw [← hX]
 have HX:=Lib.hid hX
 clear hX
 have h0:=SigAt.start w 0 0
 go_enter Tryz.func123,Tryz.ntmps123
 go_wp2_with fail
 refine (pcI x _ hx).mono ?_
 rintro e w1 ⟨x1,HX1,hx1,rfl,rfl⟩
 obtain rfl:x1=X:=HX1.out.trans HX.out.symm
 go_wp2_with fail
 refine (pcJ 4 n _ _ (by omega) (by omega) rfl).mono ?_
 rintro e w1 ⟨r,HR,hr,rfl,rfl⟩
 go_wp2_with fail
 refine (pf3 x _ hx).mono ?_
 rintro e w1 ⟨y,HY,hy,rfl,rfl⟩
 go_wp2_with fail
 refine (pfE r y t _ (by omega) (by omega) ht).mono ?_
 rintro e w2 ⟨c2,HC2,hc2,rfl,hu2⟩
 have h2:=h0.upd hu2
 clear h0
 go_wp2_with fail
 refine (rMul_any _ _ _ _ (by omega) (by omega) (by omega)).mono ?_
 rintro e w10 ⟨m1,HM1,m10,m11,rfl,rfl⟩
 go_wp2_with fail
 refine (pjV _ _ _ _ (by omega) (by omega) (by omega)).mono ?_
 rintro e w10 ⟨m2,HM2,m20,m21,rfl,rfl⟩
 obtain ⟨s,rfl⟩:∃ s:Nat,m2=(s:Int):=⟨m2.toNat,by omega⟩
 obtain ⟨k0,k1⟩:=h2.cells
 obtain ⟨f0,f1⟩:=h2.free
 go_wp2_with fail
 refine bodyPost_ret (v:=.agg #[.int .i64 (r:Int),.int .i64 (s:Int)]) (by simp [results,Tryz.results123,go_sem,k0,k1]) rfl ⟨r,s,?_,?_,hr,by omega,rfl,?_⟩
 · show _=_
   rw [HR.out,gP]
 · show _=_
   have h2:=HM2.out
   have hrg:r=gP n:=by rw [HR.out,gP]
   rw [HM1.out,HC2.out,HY.out,hrg,← HX.out,Int.add_emod_emod] at h2
   rw [sWith]
   have h3:((s:Nat):Int)=(((n+x1 * pcF (gP n) (gP x1) (bs t)) % Qn:Nat):Int):=by
    rw [h2];simp [Qn]
   omega
 · exact (h2.up.setNew (p:=⟨_,_,none⟩) (Nat.le_refl _) _).setNew (p:=⟨_,_,none⟩) (Nat.le_refl _) _
set_option maxHeartbeats 1000000 in
theorem pmx (x:Int) (t:ByteArray) (w:World) (hx:-9223372036854775808≤x∧x≤9223372036854775807) (ht:t.size≤140737488355000) :
 Calls Tryz.prog 63 #[.int .i64 x,.string t] w (ppz (gP (nonceN (expN x) (bs t))) (sWith (expN x) (nonceN (expN x) (bs t)) (bs t)) w):=by
 have h0:=SigAt.start w 0 0
 have h110:(ByteArray.mk #[110]).size=1:=rfl
 go_enter Tryz.func63,Tryz.ntmps63
 go_wp2_with fail
 refine (pcI x _ hx).mono ?_
 rintro e w1 ⟨X,HX,hX,rfl,rfl⟩
 go_wp2_with fail
 refine (pd0 X _ (by omega)).mono ?_
 rintro e w2 ⟨b1,HB1,b1l,rfl,hu2⟩
 rw [pas] at b1l
 have h2:=h0.upd hu2
 clear h0
 go_wp2_with fail
 refine (pdF _ w2 (by simp [ByteArray.size_append];omega)).mono ?_
 rintro e w3 ⟨n,HN,hn0,hn,rfl,hu3⟩
 have hnn:n=nonceN (expN x) (bs t):=by
  rw [HN.out,pae,pae,HB1.out,HX.out,nonceN]
  rfl
 have HNN:=Lib.hid hnn
 have h3:=h2.upd hu3
 clear hnn h2
 go_wp2_with fail
 refine (phG x t n w3 hx ht hn).mono ?_
 rintro e w4 ⟨r,s,HR,HS,hr,hs,rfl,hu4⟩
 have h4:=h3.upd hu4
 obtain ⟨k0,k1⟩:=h4.cells
 obtain ⟨f0,f1⟩:=h4.free
 go_wp2_with fail
 refine bodyPost_ret (v:=.agg #[.int .i64 (r:Int),.int .i64 (s:Int)]) (by simp [results,Tryz.results63,go_sem,k0,k1]) rfl ⟨r,s,?_,?_,hr,hs,rfl,?_⟩
 · show _=_
   rw [HR.out,HNN.out]
 · show _=_
   rw [HS.out,HNN.out]
 · exact (h4.up.setNew (p:=⟨_,_,none⟩) (Nat.le_refl _) _).setNew (p:=⟨_,_,none⟩) (Nat.le_refl _) _

def pqJ (l:List UInt8) (w:World) (e:Ending) (w':World):Prop:=∃ (n:Int) (ok:Bool),Hid (pqI l n ok)∧pab n∧e=.returned (.tuple #[.int .i64 n,.bool ok])∧Upd [] [] w w'
theorem pmy (s:ByteArray) (h:0<s.size):bs s=s[0] :: (bs s).drop 1:=by
 have h2:0<(bs s).length:=h
 have:=List.drop_eq_getElem_cons h2
 exact this
theorem pdl (s:ByteArray) (k:Nat) (h:k<s.size):(bs s)[k]? =some s[k]:=by
 have:k<(bs s).length:=h
 rw [List.getElem?_eq_getElem this];rfl
theorem pbA {y s:ByteArray}:(y.toList == s.toList)=true ↔ bs y=bs s:=by
 rw [beq_iff_eq,ByteArray.toList_eq,ByteArray.toList_eq]
 rfl
theorem piY (s:ByteArray) (k:Nat):bs (s.extract 0 k)=(bs s).take k:=by rw [pa1];simp
theorem pgN (s:ByteArray) (k:Nat):bs (s.extract k s.size)=(bs s).drop k:=by
 rw [pa1,List.take_of_length_le]
 simp [pac]
theorem pdJ:be 1=[1]:=by
 rw [pe8 (by omega),show 1 / 256=0 by rfl,pbg]
 rfl
end Go.Proofs.YtheobkejohifaaaGreatDoor

namespace Go.Proofs.YtheobkejohifaaaGreatDoor
set_option maxRecDepth 100000
open Go Go.RowKit
def hexD (n:Nat):UInt8:=UInt8.ofNat (if n<10 then 48+n else 87+n)
def digH (c:UInt8):Option Nat:=if 48≤c.toNat∧c.toNat≤57 then some (c.toNat - 48) else if 97≤c.toNat∧c.toNat≤102 then some (c.toNat - 87) else none
theorem pck:∀ n,n<16→digH (hexD n)=some n:=by decide
theorem pff {c:UInt8} {n:Nat} (h:digH c=some n):n<16∧hexD n=c:=by
 unfold digH at h
 split at h
 · injection h with h
   subst h
   refine ⟨by omega,UInt8.toNat_inj.1 ?_⟩
   unfold hexD
   rw [if_pos (by omega),UInt8.toNat_ofNat']
   omega
 · split at h
   · injection h with h
     subst h
     refine ⟨by omega,UInt8.toNat_inj.1 ?_⟩
     unfold hexD
     rw [if_neg (by omega),UInt8.toNat_ofNat']
     omega
   · cases h
theorem phH:∀ n,n<16→hexD n≠32:=by decide
def hexL:List UInt8→List UInt8
 | []=>[]
 | b :: r=>hexD (b.toNat / 16) :: hexD (b.toNat % 16) :: hexL r
theorem pa6:∀ l,(hexL l).length=2 * l.length
 | []=>rfl
 | b :: r=>by rw [hexL,List.length_cons,List.length_cons,pa6 r,List.length_cons];omega
theorem pka:∀ a b,hexL (a ++ b)=hexL a ++ hexL b
 | [],b=>rfl
 | x :: r,b=>by rw [List.cons_append,hexL,hexL,pka r b];rfl
theorem pfg:∀ l,(32:UInt8) ∉ hexL l
 | []=>by simp [hexL]
 | b :: r=>by
  have hb:b.toNat<256:=b.toNat_lt
  rw [hexL,List.mem_cons,List.mem_cons]
  rintro (h | h | h)
  · exact phH _ (by omega) h.symm
  · exact phH _ (by omega) h.symm
  · exact pfg r h
theorem pkb {a b:Nat} (ha:a<16) (hb:b<16) (h:hexD a=hexD b):a=b:=by
 have:=pck a ha
 rw [h,pck b hb] at this
 injection this with this
 exact this.symm
theorem pkc:∀ {a b:List UInt8},hexL a=hexL b→a=b
 | [],[],_=>rfl
 | [],b :: r,h=>by simp [hexL] at h
 | a :: r,[],h=>by simp [hexL] at h
 | a :: r,b :: s,h=>by
  have ha:a.toNat<256:=a.toNat_lt
  have hb:b.toNat<256:=b.toNat_lt
  rw [hexL,hexL] at h
  injection h with h1 h
  injection h with h2 h
  have e1:=pkb (by omega) (by omega) h1
  have e2:=pkb (by omega) (by omega) h2
  rw [UInt8.toNat_inj.1 (show a.toNat=b.toNat by omega),pkc h]
def pom (l h:List UInt8) (ok:Bool):Prop:=h.length=32∧(ok=true→l=hexL h)∧(ok=false→h=List.replicate 32 0∧∀ h':List UInt8,h'.length=32→l≠hexL h')
structure Rc where
 kiosk:Int
 serial:Int
 seen:Int
 draw:ByteArray
 out:List UInt8
 hash:List UInt8
 prev:List UInt8
 r:Int
 s:Int
def Rc.ok (x:Rc):Prop:=pab x.kiosk∧pab x.serial∧pab x.seen∧x.out.length=32∧x.hash.length=32∧x.prev.length=32∧pab x.r∧pab x.s
def Rc.zero:Rc:=⟨0,0,0,ByteArray.empty,List.replicate 32 0,List.replicate 32 0,List.replicate 32 0,0,0⟩
theorem ppi (c:UInt8) (hc:¬ (48≤c.toNat∧c.toNat≤57)) (h45:c.toNat≠45) (n:Int):c ∉ Lib.itoa n:=by
 intro h
 unfold Lib.itoa at h
 split at h
 · simp only [List.mem_cons] at h
   rcases h with h | h
   · exact h45 (by rw [h];rfl)
   · exact hc (pdU _ _ h)
 · exact hc (pdU _ _ h)
theorem itoa_no32 (n:Int):(32:UInt8) ∉ Lib.itoa n:=ppi 32 (by decide) (by decide) n
theorem pmz (n:Int):(58:UInt8) ∉ Lib.itoa n:=ppi 58 (by decide) (by decide) n
theorem pgO {a b:ByteArray} (h:bs a=bs b):a=b:=by
 cases a;cases b
 simp only [bs,Array.toList_inj] at h
 rw [h]
def rcV (x:Rc):List Value:=[.int .i64 x.kiosk,.int .i64 x.serial,.string x.draw,.int .i64 x.seen] ++ (byteVals x.out ++ (byteVals x.hash ++ (byteVals x.prev ++ [.int .i64 x.r,.int .i64 x.s])))
end Go.Proofs.YtheobkejohifaaaGreatDoor

namespace Go.Proofs.YtheobkejohifaaaGreatDoor
open Go.RowKit
set_option maxRecDepth 100000
def AB (T:TypeId) (w:World) (g:Nat) (c:List UInt8):Prop:=w.heap[g]? =some (.cells (byteVals c).toArray T (0,0))
theorem AB.upd {T:TypeId} {w w':World} {g:Nat} {c:List UInt8} (h:AB T w g c) (u:Upd [] [] w w'):AB T w' g c:=by
 unfold AB at h ⊢
 rw [u.block _ (Array.getElem?_eq_some_iff.1 h).1 (by simp)];exact h
theorem AB.cell {T:TypeId} {w:World} {g:Nat} {c:List UInt8} (h:AB T w g c) {j:Nat} {b:UInt8} (hj:c[j]? =some b):w.cell? ⟨g,j,none⟩=some (.int .u8 (b.toNat:Int)):=by
 rw [cell_of_row w g j _ _ _ h,List.getElem?_toArray]
 simp [byteVals,hj,pbt]
theorem AB.frozen {T:TypeId} {w:World} {g:Nat} {c:List UInt8} (h:AB T w g c) (j:Nat):w.frozen? ⟨g,j,none⟩=false:=frozen_of_row _ _ _ _ _ h
theorem AB.set {T:TypeId} {w:World} {g:Nat} {c:List UInt8} (h:AB T w g c) (j:Nat) (b:UInt8):AB T (w.setCell ⟨g,j,none⟩ (.int .u8 (b.toNat:Int))) g (c.set j b):=by
 have:=heap_setCell_same w g j _ _ (.int .u8 (b.toNat:Int)) h
 unfold AB
 rw [this]
 congr 2
 simp [byteVals,List.map_set,pbt]
theorem AB.text {T:TypeId} {w:World} {g:Nat} {c:List UInt8} (h:AB T w g c) (z:ByteArray) (hz:bs z=c) (k:Nat):(convert 124 9 (.slice (some ⟨g,0,none⟩) c.length k)).run Tryz.prog w=.ok (.string z) w:=by
 have:=pbT (P:=Tryz.prog) w 124 9 5 Tryz.underlying124 Tryz.underlying5 Tryz.underlying9 g _ _ T h c (List.take_of_length_le (by simp [byteVals])) 0 c.length k (by omega)
 rw [List.drop_zero,List.take_of_length_le (Nat.le_refl _)] at this
 rw [this,← hz]
 rfl
theorem paa {w w':World} {g:Nat} {o:Obj} (h:w.heap[g]? =some o) (u:Upd [] [] w w'):w'.heap[g]? =some o:=by
 rw [u.block _ (Array.getElem?_eq_some_iff.1 h).1 (by simp)];exact h
theorem ppO (A:List UInt8) (m:Nat) (x y:UInt8):((A ++ List.replicate (m+2) 0).set A.length x).set (A.length+1) y=(A ++ [x,y]) ++ List.replicate m 0:=by
 rw [List.set_append_right _ _ (Nat.le_refl _),Nat.sub_self,List.replicate_succ,List.replicate_succ,List.set_cons_zero,List.set_append_right _ _ (by omega),show A.length+1 - A.length=1 by omega]
 simp
theorem phI (l:List UInt8) (b:UInt8):hexL (l ++ [b])=hexL l ++ [hexD (b.toNat / 16),hexD (b.toNat % 16)]:=by rw [pka];rfl
theorem pon {l:List UInt8} (hl:l.length=32) {i:Nat} {b:UInt8} (hb:l[i]? =some b):((hexL (l.take i) ++ List.replicate (64 - 2 * i) 0).set (2 * i) (hexD (b.toNat / 16))).set (2 * i+1) (hexD (b.toNat % 16))=hexL (l.take (i+1)) ++ List.replicate (64 - 2 * (i+1)) 0:=by
 have hi:=(List.getElem?_eq_some_iff.1 hb).1
 have e1:l.take (i+1)=l.take i ++ [b]:=by rw [List.take_add_one,hb];rfl
 have e2:(hexL (l.take i)).length=2 * i:=by rw [pa6,List.length_take];omega
 have:=ppO (hexL (l.take i)) (64 - 2 * (i+1)) (hexD (b.toNat / 16)) (hexD (b.toNat % 16))
 rw [e2,show 64 - 2 * (i+1)+2=64 - 2 * i by omega] at this
 rw [this,e1,phI]
theorem pqK:∀ n:Nat,n<256→Go.bits .and .u8 (n:Int) 15=((n % 16:Nat):Int):=by decide +kernel
def hexS:ByteArray:=⟨#[48,49,50,51,52,53,54,55,56,57,97,98,99,100,101,102]⟩
theorem poo:∀ n:Nat,n<16→hexS[n]? =some (hexD n):=by decide
theorem pcK (n:Nat) (hn:n<16) (w:World):(Instr.index 9 (.string ⟨#[48,49,50,51,52,53,54,55,56,57,97,98,99,100,101,102]⟩) (.int .u8 (n:Int))).run Tryz.prog w=.ok (.int .u8 ((hexD n).toNat:Int)) w:=by
 have hu:Tryz.prog.underlying 9=some .string:=Tryz.underlying9
 have h0:(0:Int)≤(n:Int):=by omega
 simp only [Instr.index,asIntOf,Sem.run_bind,Sem.run_pure,Result.andThen_ok,run_underlying hu w]
 rw [if_pos h0,Int.toNat_natCast]
 have:=poo n hn
 unfold hexS at this
 rw [this]
 rfl
theorem pfG (C:Array Value) (k:Nat) (hk:k<32) (v:Value) (hv:C[k]? =some v) (w:World):(Instr.index 51 (.agg C) (.int .i64 (k:Int))).run Tryz.prog w=.ok v w:=by
 have hu:Tryz.prog.underlying 51=some (.array 32 5):=Tryz.underlying51
 have hs:(sizeOf 5).run Tryz.prog w=.ok 1 w:=by kernel_rfl
 have ha:(isAgg 5).run Tryz.prog w=.ok false w:=by kernel_rfl
 have h0:(0:Int)≤(k:Int)∧(k:Int)<((32:Nat):Int):=by omega
 simp only [Instr.index,asIntOf,Sem.run_bind,Sem.run_pure,Result.andThen_ok,run_underlying hu w]
 rw [if_pos h0]
 simp only [part,Sem.run_bind,Sem.run_pure,Result.andThen_ok,hs,ha,Bool.false_eq_true,if_false,Nat.mul_one,Int.toNat_natCast,hv]
end Go.Proofs.YtheobkejohifaaaGreatDoor
