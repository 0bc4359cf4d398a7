/- sortesref06.Text, number, Read and what follows. -/
import Derived.Test.YtmjlkkbbnkanpaaGreatDoorHAJ
import Derived.Test.YtmjlkkbbnkanpaaGreatDoorHAI
import Derived.Test.YtmjlkkbbnkanpaaGreatDoorHAC
import Derived.Test.YtmjlkkbbnkanpaaGreatDoorHAH
import Derived.Test.YtmjlkkbbnkanpaaGreatDoorHAA
import Derived.Test.YtmjlkkbbnkanpaaGreatDoorShelfC
import Derived.Deep.MidRow
import Derived.Laws.ResultCell
namespace Go.Proofs.YtmjlkkbbnkanpaaGreatDoor
open Go.RowKit
set_option maxRecDepth 100000
set_option maxHeartbeats 1000000 in
theorem rtext6_any (r s:Int) (w:World) (hr:i64in r) (hs:i64in s):Calls Tryz.prog 137 #[.agg #[.int .i64 r,.int .i64 s]] w (MkS (pairL r s) w):=by
 have h1:=ProofAt.start w r s
 have h4:=h1.upd (Upd.refl _ _).drew
 have k4:=h4.cells
 have hlr:=itoa_len r hr
 have hls:=itoa_len s hs
 go_enter Tryz.func137,Tryz.ntmps137
 go_wp2_with fail
 clear h1
 go_region_held3 (fun wp=>wp.cell? ⟨w.heap.size,0,none⟩=some (.int .i64 r)∧wp.cell? ⟨w.heap.size,1,none⟩=some (.int .i64 s)) (first | exact k4 | assumption)
  (first
   | (go_at_call 180;((with_reducible refine (decimal6_any r _ hr).mono ?_);rintro e wq ⟨y1,HY1,hy1,rfl,hq⟩;have t1:¬ 9223372036854775807<y1.size+1:=(by omega);have g1:=h4.upd hq;have kq:=g1.cells;clear hq))
   | (go_at_call 180;((with_reducible refine (decimal6_any s _ hs).mono ?_);rintro e wq ⟨y2,HY2,hy2,rfl,hq⟩;have t2:¬ 9223372036854775807<y1.size+1+y2.size:=(by omega);have g2:=g1.upd hq;have kq:=g2.cells;clear hq)))
 go_wp2_with fail
 go_ret
 refine ⟨_,?_,?_,rfl,g2.up⟩
 · show _=_
   rw [bs_append,bs_append,HY1.out,HY2.out]
   rfl
 · have e1:=bs_size HY1.out
   have e2:=bs_size HY2.out
   have e3:(ByteArray.mk #[46]).size=1:=rfl
   simp [ByteArray.size_append,pairL,e1,e2,e3]
   omega
end Go.Proofs.YtmjlkkbbnkanpaaGreatDoor

namespace Go.Proofs.YtmjlkkbbnkanpaaGreatDoor
set_option maxRecDepth 100000
def zeros64:List UInt8:=List.replicate 64 48
def tPre:List UInt8:=[101,118,101,110,116,32,53,32,52,32,51,32,48,32,48,32] ++ (zeros64 ++ [32,49,58])
def tA:List UInt8:=tPre ++ [97]
def tB:List UInt8:=tPre ++ [98]
def three:List UInt8:=[116,104,114,101,101]
theorem k_three:keyN three=157892282797220714:=by decide +kernel
theorem k_nonce:nonceN 157892282797220714 tA=582795021020609833:=by decide +kernel
theorem k_pub:gP 157892282797220714=1329328167538474094:=by
 rw [gP,← pmF_eq Pn 64 4 157892282797220714 (by decide)]
 decide +kernel
theorem k_r:gP 582795021020609833=1933573506679164813:=by
 rw [gP,← pmF_eq Pn 64 4 582795021020609833 (by decide)]
 decide +kernel
theorem k_ca:chalN 1933573506679164813 1329328167538474094 tA=159858859656014421:=by decide +kernel
theorem k_cb:chalN 1933573506679164813 1329328167538474094 tB=223578461168602368:=by decide +kernel
theorem forged_no:verB (gP (keyN three):Int) tB (gP (nonceN (keyN three) tA):Int) (sWith (keyN three) (nonceN (keyN three) tA) tA:Int)=false:=by
 cases h:verB (gP (keyN three):Int) tB (gP (nonceN (keyN three) tA):Int) (sWith (keyN three) (nonceN (keyN three) tA) tA:Int) with
 | false=>rfl
 | true =>
  rcases ver_two (ver_with (keyN three) (nonceN (keyN three) tA) tA) h with k | k
  · rw [k_three,k_nonce,k_pub,k_r,k_ca,k_cb] at k
    exact absurd k (by decide)
  · rw [k_three,k_pub] at k
    exact absurd k (by decide)
end Go.Proofs.YtmjlkkbbnkanpaaGreatDoor

namespace Go.Proofs.YtmjlkkbbnkanpaaGreatDoor
set_option maxRecDepth 100000
open Go Go.RowKit
def hexD (n:Nat):UInt8:=UInt8.ofNat (if n<10 then 48+n else 87+n)
def digH (c:UInt8):Option Nat:=if 48≤c.toNat∧c.toNat≤57 then some (c.toNat - 48) else if 97≤c.toNat∧c.toNat≤102 then some (c.toNat - 87) else none
theorem digH_hexD:∀ n,n<16→digH (hexD n)=some n:=by decide
theorem hexD_digH {c:UInt8} {n:Nat} (h:digH c=some n):n<16∧hexD n=c:=by
 unfold digH at h
 split at h
 · injection h with h
   subst h
   refine ⟨by omega,UInt8.toNat_inj.1 ?_⟩
   unfold hexD
   rw [if_pos (by omega),UInt8.toNat_ofNat']
   omega
 · split at h
   · injection h with h
     subst h
     refine ⟨by omega,UInt8.toNat_inj.1 ?_⟩
     unfold hexD
     rw [if_neg (by omega),UInt8.toNat_ofNat']
     omega
   · cases h
theorem hexD_ne32:∀ n,n<16→hexD n≠32:=by decide
def hexL:List UInt8→List UInt8
 | []=>[]
 | b :: r=>hexD (b.toNat / 16) :: hexD (b.toNat % 16) :: hexL r
theorem hexL_len:∀ l,(hexL l).length=2 * l.length
 | []=>rfl
 | b :: r=>by rw [hexL,List.length_cons,List.length_cons,hexL_len r,List.length_cons];omega
theorem hexL_app:∀ a b,hexL (a ++ b)=hexL a ++ hexL b
 | [],b=>rfl
 | x :: r,b=>by rw [List.cons_append,hexL,hexL,hexL_app r b];rfl
theorem hexL_no32:∀ l,(32:UInt8) ∉ hexL l
 | []=>by simp [hexL]
 | b :: r=>by
  have hb:b.toNat<256:=b.toNat_lt
  rw [hexL,List.mem_cons,List.mem_cons]
  rintro (h | h | h)
  · exact hexD_ne32 _ (by omega) h.symm
  · exact hexD_ne32 _ (by omega) h.symm
  · exact hexL_no32 r h
theorem hexD_inj {a b:Nat} (ha:a<16) (hb:b<16) (h:hexD a=hexD b):a=b:=by
 have:=digH_hexD a ha
 rw [h,digH_hexD b hb] at this
 injection this with this
 exact this.symm
theorem hexL_inj:∀ {a b:List UInt8},hexL a=hexL b→a=b
 | [],[],_=>rfl
 | [],b :: r,h=>by simp [hexL] at h
 | a :: r,[],h=>by simp [hexL] at h
 | a :: r,b :: s,h=>by
  have ha:a.toNat<256:=a.toNat_lt
  have hb:b.toNat<256:=b.toNat_lt
  rw [hexL,hexL] at h
  injection h with h1 h
  injection h with h2 h
  have e1:=hexD_inj (by omega) (by omega) h1
  have e2:=hexD_inj (by omega) (by omega) h2
  rw [UInt8.toNat_inj.1 (show a.toNat=b.toNat by omega),hexL_inj h]
def hexOk (l h:List UInt8) (ok:Bool):Prop:=h.length=32∧(ok=true→l=hexL h)∧(ok=false→h=List.replicate 32 0∧∀ h':List UInt8,h'.length=32→l≠hexL h')
structure Rc where
 kiosk:Int
 serial:Int
 seen:Int
 draw:ByteArray
 out:List UInt8
 hash:List UInt8
 prev:List UInt8
 r:Int
 s:Int
def Rc.ok (x:Rc):Prop:=i64in x.kiosk∧i64in x.serial∧i64in x.seen∧x.out.length=32∧x.hash.length=32∧x.prev.length=32∧i64in x.r∧i64in x.s
def Rc.zero:Rc:=⟨0,0,0,ByteArray.empty,List.replicate 32 0,List.replicate 32 0,List.replicate 32 0,0,0⟩
theorem dec_no (c:UInt8) (hc:¬ (48≤c.toNat∧c.toNat≤57)) (h45:c.toNat≠45) (n:Int):c ∉ Lib.itoa n:=by
 intro h
 unfold Lib.itoa at h
 split at h
 · simp only [List.mem_cons] at h
   rcases h with h | h
   · exact h45 (by rw [h];rfl)
   · exact hc (dec_digits _ _ h)
 · exact hc (dec_digits _ _ h)
theorem itoa_no32 (n:Int):(32:UInt8) ∉ Lib.itoa n:=dec_no 32 (by decide) (by decide) n
theorem itoa_no58 (n:Int):(58:UInt8) ∉ Lib.itoa n:=dec_no 58 (by decide) (by decide) n
theorem bs_injE {a b:ByteArray} (h:bs a=bs b):a=b:=by
 cases a;cases b
 simp only [bs,Array.toList_inj] at h
 rw [h]
def rcV (x:Rc):List Value:=[.int .i64 x.kiosk,.int .i64 x.serial,.string x.draw,.int .i64 x.seen] ++ (byteVals x.out ++ (byteVals x.hash ++ (byteVals x.prev ++ [.int .i64 x.r,.int .i64 x.s])))
end Go.Proofs.YtmjlkkbbnkanpaaGreatDoor

namespace Go.Proofs.YtmjlkkbbnkanpaaGreatDoor
open Go.RowKit
set_option maxRecDepth 100000
def AB (T:TypeId) (w:World) (g:Nat) (c:List UInt8):Prop:=w.heap[g]? =some (.cells (byteVals c).toArray T (0,0))
theorem AB.upd {T:TypeId} {w w':World} {g:Nat} {c:List UInt8} (h:AB T w g c) (u:Upd [] [] w w'):AB T w' g c:=by
 unfold AB at h ⊢
 rw [u.block _ (Array.getElem?_eq_some_iff.1 h).1 (by simp)];exact h
theorem AB.cell {T:TypeId} {w:World} {g:Nat} {c:List UInt8} (h:AB T w g c) {j:Nat} {b:UInt8} (hj:c[j]? =some b):w.cell? ⟨g,j,none⟩=some (.int .u8 (b.toNat:Int)):=by
 rw [cell_of_row w g j _ _ _ h,List.getElem?_toArray]
 simp [byteVals,hj,byteV]
theorem AB.frozen {T:TypeId} {w:World} {g:Nat} {c:List UInt8} (h:AB T w g c) (j:Nat):w.frozen? ⟨g,j,none⟩=false:=frozen_of_row _ _ _ _ _ h
theorem AB.set {T:TypeId} {w:World} {g:Nat} {c:List UInt8} (h:AB T w g c) (j:Nat) (b:UInt8):AB T (w.setCell ⟨g,j,none⟩ (.int .u8 (b.toNat:Int))) g (c.set j b):=by
 have:=heap_setCell_same w g j _ _ (.int .u8 (b.toNat:Int)) h
 unfold AB
 rw [this]
 congr 2
 simp [byteVals,List.map_set,byteV]
theorem AB.text {T:TypeId} {w:World} {g:Nat} {c:List UInt8} (h:AB T w g c) (z:ByteArray) (hz:bs z=c) (k:Nat):(convert 126 9 (.slice (some ⟨g,0,none⟩) c.length k)).run Tryz.prog w=.ok (.string z) w:=by
 have:=conv_bytes (P:=Tryz.prog) w 126 9 5 Tryz.underlying126 Tryz.underlying5 Tryz.underlying9 g _ _ T h c (List.take_of_length_le (by simp [byteVals])) 0 c.length k (by omega)
 rw [List.drop_zero,List.take_of_length_le (Nat.le_refl _)] at this
 rw [this,← hz]
 rfl
theorem row_updH {w w':World} {g:Nat} {o:Obj} (h:w.heap[g]? =some o) (u:Upd [] [] w w'):w'.heap[g]? =some o:=by
 rw [u.block _ (Array.getElem?_eq_some_iff.1 h).1 (by simp)];exact h
theorem set_two (A:List UInt8) (m:Nat) (x y:UInt8):((A ++ List.replicate (m+2) 0).set A.length x).set (A.length+1) y=(A ++ [x,y]) ++ List.replicate m 0:=by
 rw [List.set_append_right _ _ (Nat.le_refl _),Nat.sub_self,List.replicate_succ,List.replicate_succ,List.set_cons_zero,List.set_append_right _ _ (by omega),show A.length+1 - A.length=1 by omega]
 simp
theorem hexL_snoc (l:List UInt8) (b:UInt8):hexL (l ++ [b])=hexL l ++ [hexD (b.toNat / 16),hexD (b.toNat % 16)]:=by rw [hexL_app];rfl
theorem hex_fill {l:List UInt8} (hl:l.length=32) {i:Nat} {b:UInt8} (hb:l[i]? =some b):((hexL (l.take i) ++ List.replicate (64 - 2 * i) 0).set (2 * i) (hexD (b.toNat / 16))).set (2 * i+1) (hexD (b.toNat % 16))=hexL (l.take (i+1)) ++ List.replicate (64 - 2 * (i+1)) 0:=by
 have hi:=(List.getElem?_eq_some_iff.1 hb).1
 have e1:l.take (i+1)=l.take i ++ [b]:=by rw [List.take_add_one,hb];rfl
 have e2:(hexL (l.take i)).length=2 * i:=by rw [hexL_len,List.length_take];omega
 have:=set_two (hexL (l.take i)) (64 - 2 * (i+1)) (hexD (b.toNat / 16)) (hexD (b.toNat % 16))
 rw [e2,show 64 - 2 * (i+1)+2=64 - 2 * i by omega] at this
 rw [this,e1,hexL_snoc]
theorem and15:∀ n:Nat,n<256→Go.bits .and .u8 (n:Int) 15=((n % 16:Nat):Int):=by decide +kernel
def hexS:ByteArray:=⟨#[48,49,50,51,52,53,54,55,56,57,97,98,99,100,101,102]⟩
theorem hexS_get:∀ n:Nat,n<16→hexS[n]? =some (hexD n):=by decide
theorem run_index_digit (n:Nat) (hn:n<16) (w:World):(Instr.index 9 (.string ⟨#[48,49,50,51,52,53,54,55,56,57,97,98,99,100,101,102]⟩) (.int .u8 (n:Int))).run Tryz.prog w=.ok (.int .u8 ((hexD n).toNat:Int)) w:=by
 have hu:Tryz.prog.underlying 9=some .string:=Tryz.underlying9
 have h0:(0:Int)≤(n:Int):=by omega
 simp only [Instr.index,asIntOf,Sem.run_bind,Sem.run_pure,Result.andThen_ok,run_underlying hu w]
 rw [if_pos h0,Int.toNat_natCast]
 have:=hexS_get n hn
 unfold hexS at this
 rw [this]
 rfl
theorem run_index_hash (C:Array Value) (k:Nat) (hk:k<32) (v:Value) (hv:C[k]? =some v) (w:World):(Instr.index 64 (.agg C) (.int .i64 (k:Int))).run Tryz.prog w=.ok v w:=by
 have hu:Tryz.prog.underlying 64=some (.array 32 5):=Tryz.underlying64
 have hs:(sizeOf 5).run Tryz.prog w=.ok 1 w:=by kernel_rfl
 have ha:(isAgg 5).run Tryz.prog w=.ok false w:=by kernel_rfl
 have h0:(0:Int)≤(k:Int)∧(k:Int)<((32:Nat):Int):=by omega
 simp only [Instr.index,asIntOf,Sem.run_bind,Sem.run_pure,Result.andThen_ok,run_underlying hu w]
 rw [if_pos h0]
 simp only [part,Sem.run_bind,Sem.run_pure,Result.andThen_ok,hs,ha,Bool.false_eq_true,if_false,Nat.mul_one,Int.toNat_natCast,hv]
set_option maxHeartbeats 2000000 in
theorem hexText_any (l:List UInt8) (hl:l.length=32) (w:World):Calls Tryz.prog 106 #[.agg (byteVals l).toArray] w (MkS (hexL l) w):=by
 obtain ⟨C,hC⟩:∃ C,C=(byteVals l).toArray:=⟨_,rfl⟩
 rw [← hC]
 have hcz:C.size=32:=by rw [hC];simp [byteVals,hl]
 have HI:Hid ((Tryz.prog.info? 64).map (·.size)=some C.size):=by show _=_;rw [hcz];kernel_rfl
 have HC:=Lib.hid hC
 clear hC
 have hg0:Hid (((w.alloc (.cells C 64)).alloc (.cells (byteVals (List.replicate 64 0)).toArray 200)).heap[w.heap.size]? =some (.cells C 64 (0,0))):=row_updH (heap_alloc_new w _) ((Upd.refl _ _).alloc _)
 go_enter Tryz.func106,Tryz.ntmps106
 go_wp2_with (first | (refine wpList_load_row rfl 64 _ rfl w.heap.size rfl _ C _ _ hg0.out Tryz.underlying64 rfl HI.out ?_))
 go_loopw [4,5,7] (fun _ _ i wr=>∃ k:Nat,i=.int .i64 (k:Int)∧k≤32∧Hid (AB 200 wr (w.heap.size+1) (hexL (l.take k) ++ List.replicate (64 - 2 * k) 0))∧Hid (Upd [] [] w wr)) (fun _ _ i _=>32 - (intOf i).toNat)
 case atStart =>
  refine ⟨0,rfl,Nat.zero_le _,?_,((Upd.refl _ _).alloc _).alloc _⟩
  have h:=heap_alloc_new (w.alloc (.cells C 64)) (.cells (byteVals (List.replicate 64 0)).toArray 200)
  rw [World.size_alloc] at h
  exact h
 case round =>
  obtain ⟨k,rfl,hk,HA,HU⟩:=hrel
  by_cases hlt:k<32
  · obtain ⟨b,hb⟩:∃ b,l[k]? =some b:=⟨_,List.getElem?_eq_getElem (by omega)⟩
    have hck:C[k]? =some (.int .u8 (b.toNat:Int)):=by rw [HC.out,List.getElem?_toArray];simp [byteVals,hb,byteV]
    have hb256:b.toNat<256:=b.toNat_lt
    have f0:=HA.out.frozen (2 * k)
    have f1:=HA.out.frozen (2 * k+1)
    have i0:(0:Int)≤(k:Int):=by omega
    have i1:(k:Int)<32:=by omega
    have hix:=run_index_hash C k hlt _ hck
    obtain ⟨j,hj⟩:∃ j,j=2 * k:=⟨_,rfl⟩
    obtain ⟨j1,hj1⟩:∃ j1,j1=j+1:=⟨_,rfl⟩
    have e1:IntKind.i64.wrap (2 * (k:Int))=(j:Int):=by rw [IntWalk.i64_in _ (by omega)];omega
    have e2:IntKind.i64.wrap ((j:Int)+1)=(j1:Int):=by rw [IntWalk.i64_in _ (by omega)];omega
    have b0:(0:Int)≤(j:Int):=by omega
    have b1:(j:Int)<64:=by omega
    have b2:(0:Int)≤(j1:Int):=by omega
    have b3:(j1:Int)<64:=by omega
    rw [← hj] at f0 f1
    rw [← hj1] at f1
    obtain ⟨x0,hx0⟩:∃ x0,x0=b.toNat / 16:=⟨_,rfl⟩
    obtain ⟨x1,hx1⟩:∃ x1,x1=b.toNat % 16:=⟨_,rfl⟩
    have v0:(b.toNat:Int) / 16=(x0:Int):=by omega
    have v1:Go.bits .and .u8 (b.toNat:Int) 15=(x1:Int):=by rw [hx1];exact and15 _ hb256
    have y0:=run_index_digit x0 (by omega)
    have y1:=run_index_digit x1 (by omega)
    have c0:wr.cell? ⟨w.heap.size+1,j,none⟩=some (.int .u8 0):=HA.out.cell (b:=0) (by rw [hj,List.getElem?_append_right (by rw [hexL_len,List.length_take];omega),List.getElem?_replicate,if_pos (by rw [hexL_len,List.length_take];omega)])
    have c1:wr.cell? ⟨w.heap.size+1,j1,none⟩=some (.int .u8 0):=HA.out.cell (b:=0) (by rw [hj1,hj,List.getElem?_append_right (by rw [hexL_len,List.length_take];omega),List.getElem?_replicate,if_pos (by rw [hexL_len,List.length_take];omega)])
    have n0:¬ j=j1:=by omega
    have n1:¬ j1=j:=by omega
    have HJ:=Lib.hid (And.intro hj (And.intro hj1 (And.intro hx0 hx1)))
    have HB:=Lib.hid hb
    clear hj hj1 hx0 hx1 hb
    have HA2:Hid (AB 200 ((wr.setCell ⟨w.heap.size+1,j,none⟩ (.int .u8 ((hexD x0).toNat:Int))).setCell ⟨w.heap.size+1,j1,none⟩ (.int .u8 ((hexD x1).toNat:Int))).drew (w.heap.size+1) (hexL (l.take (k+1)) ++ List.replicate (64 - 2 * (k+1)) 0)):=by
     have h:=((HA.out.set j (hexD x0)).set j1 (hexD x1)).upd (Upd.refl _ _).drew
     obtain ⟨q1,q2,q3,q4⟩:=HJ.out
     rw [q2,q1,q3,q4,hex_fill hl HB.out] at h
     rw [q2,q1,q3,q4]
     exact h
    have HU2:Hid (Upd [] [] w ((wr.setCell ⟨w.heap.size+1,j,none⟩ (.int .u8 ((hexD x0).toNat:Int))).setCell ⟨w.heap.size+1,j1,none⟩ (.int .u8 ((hexD x1).toNat:Int))).drew) :=
     ((HU.out.setNew (p:=⟨w.heap.size+1,j,none⟩) (by show w.heap.size≤w.heap.size+1;omega) _).setNew (p:=⟨w.heap.size+1,j1,none⟩) (by show w.heap.size≤w.heap.size+1;omega) _).drew
    go_wp2_with fail
    go_region_held3 (fun _=>True) (first | trivial | assumption) (fail)
    all_goals
     go_wp2_with fail
     exact ⟨⟨k+1,by go_num,by omega,HA2,HU2⟩,by simp [intOf];omega⟩
  · obtain rfl:k=32:=by omega
    obtain ⟨z,hz⟩:∃ z:ByteArray,bs z=hexL l:=⟨⟨(hexL l).toArray⟩,rfl⟩
    have hcv:=HA.out.text z (by rw [hz,List.take_of_length_le (by omega)];simp) 64
    rw [List.take_of_length_le (by omega)] at hcv
    have hlen:(hexL l ++ List.replicate (64 - 2 * 32) 0).length=64:=by simp [hexL_len,hl]
    rw [hlen] at hcv
    have HZ:=Lib.hid hz
    clear hz hlt hk HA hlen
    go_wp2_with fail
    go_ret
    refine ⟨z,HZ,?_,rfl,HU.out⟩
    rw [← HZ.out,bs_length]
    exact Nat.le_refl _
theorem run_slice_digit (n:Nat) (hn:n<16) (w:World):(Instr.slice 9 (.string ⟨#[48,49,50,51,52,53,54,55,56,57,97,98,99,100,101,102]⟩) (some (.int .u8 (n:Int))) (some (.int .u8 ((n+1:Nat):Int))) none).run Tryz.prog w=.ok (.string (ByteArray.mk #[hexD n])) w:=by
 have h:n=0∨n=1∨n=2∨n=3∨n=4∨n=5∨n=6∨n=7∨n=8∨n=9∨n=10∨n=11∨n=12∨n=13∨n=14∨n=15:=by omega
 rcases h with rfl | rfl | rfl | rfl | rfl | rfl | rfl | rfl | rfl | rfl | rfl | rfl | rfl | rfl | rfl | rfl
 all_goals (show _=_;first | kernel_rfl | rfl)
set_option maxHeartbeats 2000000 in
theorem rhexText_any (l:List UInt8) (hl:l.length=32) (w:World):Calls Tryz.prog 132 #[.agg (byteVals l).toArray] w (MkS (hexL l) w):=by
 obtain ⟨C,hC⟩:∃ C,C=(byteVals l).toArray:=⟨_,rfl⟩
 have hg0:Hid (AB 64 (w.alloc (.cells C 64)) w.heap.size l):=by rw [hC];exact heap_alloc_new _ _
 rw [← hC]
 clear hC
 go_enter Tryz.func132,Tryz.ntmps132
 go_wp2_with fail
 go_loopw [3,4] (fun s i wr=>∃ (k:Nat) (acc:ByteArray),s=.string acc∧i=.int .i64 (k:Int)∧k≤32∧acc.size=2 * k∧Hid (bs acc=hexL (l.take k))∧Hid (AB 64 wr w.heap.size l)∧Hid (Upd [] [] w wr)) (fun _ i _=>32 - (intOf i).toNat)
 case atStart=>exact ⟨0,ByteArray.empty,rfl,rfl,Nat.zero_le _,rfl,rfl,hg0,(Upd.refl _ _).alloc _⟩
 case round =>
  obtain ⟨k,acc,rfl,rfl,hk,has,HS,HA,HU⟩:=hrel
  by_cases hlt:k<32
  · obtain ⟨b,hb⟩:∃ b,l[k]? =some b:=⟨_,List.getElem?_eq_getElem (by omega)⟩
    have hb256:b.toNat<256:=b.toNat_lt
    have cb:=HA.out.cell hb
    obtain ⟨x0,hx0⟩:∃ x0,x0=b.toNat / 16:=⟨_,rfl⟩
    obtain ⟨x1,hx1⟩:∃ x1,x1=b.toNat % 16:=⟨_,rfl⟩
    obtain ⟨m0,hm0⟩:∃ m0,m0=x0+1:=⟨_,rfl⟩
    obtain ⟨m1,hm1⟩:∃ m1,m1=x1+1:=⟨_,rfl⟩
    have v0:(b.toNat:Int).tdiv 16=(x0:Int):=by rw [Int.tdiv_eq_ediv_of_nonneg (by omega)];omega
    have v1:(b.toNat:Int).tmod 16=(x1:Int):=by rw [Int.tmod_eq_emod_of_nonneg (by omega)];omega
    have v2:IntKind.u8.wrap ((x0:Int)+1)=(m0:Int):=by unfold IntKind.wrap;simp [IntKind.bits,IntKind.signed];omega
    have v3:IntKind.u8.wrap ((x1:Int)+1)=(m1:Int):=by unfold IntKind.wrap;simp [IntKind.bits,IntKind.signed];omega
    have v4:IntKind.u8.wrap (x0:Int)=(x0:Int):=by unfold IntKind.wrap;simp [IntKind.bits,IntKind.signed];omega
    have v5:IntKind.u8.wrap (x1:Int)=(x1:Int):=by unfold IntKind.wrap;simp [IntKind.bits,IntKind.signed];omega
    have y0:=run_slice_digit x0 (by omega)
    have y1:=run_slice_digit x1 (by omega)
    rw [← hm0] at y0
    rw [← hm1] at y1
    have i0:(0:Int)≤(k:Int):=by omega
    have i1:(k:Int)<32:=by omega
    have HST:Hid (bs (acc ++ ByteArray.mk #[hexD x0] ++ ByteArray.mk #[hexD x1])=hexL (l.take (k+1))):=by
     show _=_
     have e1:l.take (k+1)=l.take k ++ [b]:=by rw [List.take_add_one,hb];rfl
     rw [e1,hexL_snoc,bs_append,bs_append,HS.out,← hx0,← hx1]
     simp [bs]
    have hsz:(acc ++ ByteArray.mk #[hexD x0] ++ ByteArray.mk #[hexD x1]).size=2 * (k+1):=by
     rw [ByteArray.size_append,ByteArray.size_append,has]
     show 2 * k+1+1=_
     omega
    have k4:wr.drew.cell? ⟨w.heap.size,k,none⟩=some (.int .u8 (b.toNat:Int)):=cb
    have hz:¬ 9223372036854775807<2 * k+1+1:=by omega
    have hz0:¬ 9223372036854775807<2 * k+1:=by omega
    clear hx0 hx1 hm0 hm1 hb
    go_wp2_with fail
    go_region_held3 (fun wp=>wp.cell? ⟨w.heap.size,k,none⟩=some (.int .u8 (b.toNat:Int))) (first | with_reducible exact k4 | with_reducible assumption) (fail)
    go_wp2_with fail
    exact ⟨⟨k+1,_,rfl,by go_num,by omega,hsz,HST,HA.out.upd (Upd.refl _ _).drew,HU.out.drew⟩,by simp [intOf];omega⟩
  · obtain rfl:k=32:=by omega
    have hs:=HS.out
    rw [List.take_of_length_le (by omega)] at hs
    have HSS:=Lib.hid hs
    clear hs hlt hk
    go_wp2_with fail
    go_ret
    refine ⟨acc,HSS,?_,rfl,HU.out⟩
    rw [← HSS.out,bs_length]
    exact Nat.le_refl _
def dv (c:UInt8):UInt8:=UInt8.ofNat ((digH c).getD 0)
def fillH:List UInt8→List UInt8
 | []=>[]
 | [a]=>[dv a]
 | a :: b :: r=>UInt8.ofNat (16 * (dv a).toNat+(dv b).toNat) :: fillH r
theorem fillH_app:∀ (t r:List UInt8),t.length % 2=0→fillH (t ++ r)=fillH t ++ fillH r
 | [],r,_=>rfl
 | [a],r,h=>by simp at h
 | a :: b :: t,r,h=>by
  rw [List.cons_append,List.cons_append,fillH,fillH,fillH_app t r (by simp at h;omega),List.cons_append]
theorem fillH_len:∀ t:List UInt8,(fillH t).length=(t.length+1) / 2
 | []=>rfl
 | [a]=>by simp [fillH]
 | a :: b :: t=>by rw [fillH,List.length_cons,fillH_len t,List.length_cons,List.length_cons];omega
def digs16 (t:List UInt8):Prop:=∀ c∈t,∃ n,digH c=some n
theorem dv_of {c:UInt8} {n:Nat} (h:digH c=some n):(dv c).toNat=n∧n<16:=by
 have:=(hexD_digH h).1
 unfold dv
 rw [h]
 exact ⟨by show (UInt8.ofNat n).toNat=n;rw [UInt8.toNat_ofNat'];omega,this⟩
theorem hexL_fillH:∀ t:List UInt8,t.length % 2=0→digs16 t→hexL (fillH t)=t
 | [],_,_=>rfl
 | [a],h,_=>by simp at h
 | a :: b :: t,h,hd=>by
  obtain ⟨n,hn⟩:=hd a (by simp)
  obtain ⟨m,hm⟩:=hd b (by simp)
  obtain ⟨e1,l1⟩:=dv_of hn
  obtain ⟨e2,l2⟩:=dv_of hm
  rw [fillH,hexL,hexL_fillH t (by simp at h;omega) (fun c hc=>hd c (by simp [hc])),e1,e2]
  have e:(UInt8.ofNat (16 * n+m)).toNat=16 * n+m:=by rw [UInt8.toNat_ofNat'];omega
  rw [e,show (16 * n+m) / 16=n by omega,show (16 * n+m) % 16=m by omega,(hexD_digH hn).2,(hexD_digH hm).2]
theorem digs16_hexL:∀ l:List UInt8,digs16 (hexL l)
 | [],c,h=>by simp [hexL] at h
 | b :: r,c,h=>by
  have hb:b.toNat<256:=b.toNat_lt
  rw [hexL,List.mem_cons,List.mem_cons] at h
  rcases h with rfl | rfl | h
  · exact ⟨_,digH_hexD _ (by omega)⟩
  · exact ⟨_,digH_hexD _ (by omega)⟩
  · exact digs16_hexL r c h
theorem hexOk_yes {t:List UInt8} (h:t.length=64) (hd:digs16 t):hexOk t (fillH t) true :=
 ⟨by rw [fillH_len,h],fun _=>(hexL_fillH t (by omega) hd).symm,fun h=>by cases h⟩
theorem hexOk_len {t:List UInt8} (h:t.length≠64):hexOk t (List.replicate 32 0) false :=
 ⟨by simp,(fun h=>by cases h),fun _=>⟨rfl,fun h' hl e=>h (by rw [e,hexL_len,hl])⟩⟩
theorem hexOk_dig {t:List UInt8} {c:UInt8} (hc:c∈t) (h:digH c=none):hexOk t (List.replicate 32 0) false :=
 ⟨by simp,(fun h=>by cases h),fun _=>⟨rfl,fun h' hl e=>by
  obtain ⟨n,hn⟩:=digs16_hexL h' c (by rw [← e];exact hc)
  rw [h] at hn
  cases hn⟩⟩
def MkHash (l:List UInt8) (w:World) (e:Ending) (w':World):Prop:=∃ (h:List UInt8) (ok:Bool),Hid (hexOk l h ok)∧e=.returned (.tuple #[.agg (byteVals h).toArray,.bool ok])∧Upd [] [] w w'
theorem fill_even {t:List UInt8} {m:Nat} {c:UInt8} (hc:t[2 * m]? =some c) (hm:2 * m<64):(fillH (t.take (2 * m)) ++ List.replicate (32 - m) 0).set m (dv c)=fillH (t.take (2 * m+1)) ++ List.replicate (32 - (m+1)) 0:=by
 have hl:=(List.getElem?_eq_some_iff.1 hc).1
 have e0:(t.take (2 * m)).length=2 * m:=by rw [List.length_take];omega
 have e1:t.take (2 * m+1)=t.take (2 * m) ++ [c]:=by rw [List.take_add_one,hc];rfl
 have e2:(fillH (t.take (2 * m))).length=m:=by rw [fillH_len,e0];omega
 rw [e1,fillH_app _ _ (by rw [e0];omega),List.set_append_right _ _ (by omega),e2,Nat.sub_self,show 32 - m=(32 - (m+1))+1 by omega,List.replicate_succ,List.set_cons_zero,List.append_assoc]
 rfl
theorem fill_odd {t:List UInt8} {m:Nat} {a c:UInt8} (ha:t[2 * m]? =some a) (hc:t[2 * m+1]? =some c):(fillH (t.take (2 * m+1)) ++ List.replicate (32 - (m+1)) 0)[m]? =some (dv a)∧(fillH (t.take (2 * m+1)) ++ List.replicate (32 - (m+1)) 0).set m (UInt8.ofNat (16 * (dv a).toNat+(dv c).toNat))=fillH (t.take (2 * m+1+1)) ++ List.replicate (32 - (m+1)) 0:=by
 have hl:=(List.getElem?_eq_some_iff.1 hc).1
 have e0:(t.take (2 * m)).length=2 * m:=by rw [List.length_take];omega
 have e1:t.take (2 * m+1)=t.take (2 * m) ++ [a]:=by rw [List.take_add_one,ha];rfl
 have e3:t.take (2 * m+1+1)=t.take (2 * m) ++ [a,c]:=by rw [List.take_add_one,hc,e1];simp
 have e2:(fillH (t.take (2 * m))).length=m:=by rw [fillH_len,e0];omega
 rw [e3,e1,fillH_app _ _ (by rw [e0];omega),fillH_app _ _ (by rw [e0];omega),List.append_assoc,List.append_assoc]
 refine ⟨?_,?_⟩
 · rw [List.getElem?_append_right (by omega),e2,Nat.sub_self]
   rfl
 · rw [List.set_append_right _ _ (by omega),e2,Nat.sub_self]
   rfl
theorem digit_index (c:UInt8):(Lib.indexByte [48,49,50,51,52,53,54,55,56,57,97,98,99,100,101,102] c=match digH c with | some n=>(n:Int) | none=>-1):=by
 have:∀ n:Fin 256,(Lib.indexByte [48,49,50,51,52,53,54,55,56,57,97,98,99,100,101,102] (UInt8.ofNat n.val)=match digH (UInt8.ofNat n.val) with | some n=>(n:Int) | none=>-1):=by decide +kernel
 have h:=this ⟨c.toNat,c.toNat_lt⟩
 simp only [UInt8.ofNat_toNat] at h
 exact h
theorem or_digit:∀ a:Nat,a<16→∀ b:Nat,b<16→Go.bits .or .u8 ((16 * a:Nat):Int) (b:Int)=((16 * a+b:Nat):Int):=by
 have:∀ a:Fin 16,∀ b:Fin 16,Go.bits .or .u8 ((16 * a.val:Nat):Int) (b.val:Int)=((16 * a.val+b.val:Nat):Int):=by decide +kernel
 exact fun a ha b hb=>this ⟨a,ha⟩ ⟨b,hb⟩
theorem results_row_tmp {P:Program} {fn:Func} {p u:Tmp} {ty:TypeId} (h:fn.results=#[.cell p ty,.tmp u]) (tmps:Array Value) (w:World) (g:Nat) (t:TypeId) (cs:Array Value) (fr:Nat × Nat) (d:TypeDesc)
 (hp:tmps.getD p undef=.pointer (some ⟨g,0,none⟩)) (hg:w.heap[g]? =some (.cells cs t fr))
 (hu:P.underlying ty=some d) (hd:d.isRow=true) (hi:(P.info? ty).map (·.size)=some cs.size) :
 (results fn tmps).run P w=.ok (.tuple #[.agg cs,tmps.getD u undef]) w:=by
 have hl:(loadVar ty ⟨g,0,none⟩).run P w=.ok (.agg cs) w:=by
  cases d with
  | struct fs=>exact run_loadVar_row w g t ty cs fr _ hg hu rfl hi
  | array n e=>exact run_loadVar_row w g t ty cs fr _ hg hu rfl hi
  | _=>cases hd
 rw [results_cell_tmp h,hp]
 simp only [asAddr,Sem.run_pure,Result.andThen_ok,hl]
end Go.Proofs.YtmjlkkbbnkanpaaGreatDoor
