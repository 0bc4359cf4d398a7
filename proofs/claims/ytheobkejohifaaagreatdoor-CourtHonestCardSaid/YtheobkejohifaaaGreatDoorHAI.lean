/- More on numerals, plainly: digits one by one, the value of digits, when a text is a numeral and what follows. -/
import Derived.Test.YtheobkejohifaaaGreatDoorHAD
import Derived.RowKit
import Derived.Test.YtheobkejohifaaaGreatDoorHAH
import Derived.Test.YtheobkejohifaaaGreatDoorRows
import Derived.Test.YtheobkejohifaaaGreatDoorHAA
namespace Go.Proofs.YtheobkejohifaaaGreatDoor
set_option maxRecDepth 100000
open Go Go.RowKit
def digs (v:Nat):List UInt8:=if v=0 then [] else Lib.decDigits v
theorem pmp (v:Nat) (h:0<v):digs v=digs (v / 10) ++ [UInt8.ofNat (48+v % 10)]:=by
 unfold digs
 rw [if_neg (by omega),Lib.decDigits]
 by_cases hv:v<10
 · rw [dif_pos hv,if_pos (by omega),show v % 10=v by omega];rfl
 · rw [dif_neg hv,if_neg (by omega)]
theorem poj {v:Nat} (h:0<v):digs v=Lib.decDigits v:=by unfold digs;rw [if_neg (by omega)]
def valD:List UInt8→Nat
 | l=>l.foldl (fun a c=>a * 10+(c.toNat - 48)) 0
def pk4 (l:List UInt8):Prop:=∃ m:Int,pab m∧l=Lib.itoa m
theorem pc0 {u:Nat} (h:u≤9223372036854775808):(Lib.decDigits u).length≤19:=by
 have e:(10:Nat) ^ 19=10000000000000000000:=by decide
 exact pe3 18 u (by rw [e];omega)
def pqI (l:List UInt8) (n:Int) (ok:Bool):Prop:=pab n∧(ok=true→l=Lib.itoa n)∧(ok=false→¬ pk4 l)
theorem pdH {l:List UInt8} (h:¬ pk4 l):pqI l 0 false:=⟨⟨by omega,by omega⟩,(fun h=>by cases h),fun _=>h⟩
end Go.Proofs.YtheobkejohifaaaGreatDoor

namespace Go.Proofs.YtheobkejohifaaaGreatDoor
open Go.RowKit
set_option maxRecDepth 100000
theorem pfF (a b:List Nat):pah (a ++ b)=pah a ++ pah b:=by simp [pah]
theorem pd1 {P:Program} (w:World) (base:Nat) (t ty e:TypeId) (i:TypeInfo) (size:Nat) (ht:P.underlying t=some (.slice e)) (hi:P.info? e=some i)
 (v:Value) (n:Nat) (xs:List Value) (hown:w.ownsRow base e size v n xs) (c:Nat):(Builtin.append_ #[t,t] ty #[v,.slice none 0 c]).run P w=.ok v w:=by
 rcases hown.2 with ⟨rfl,rfl⟩ | ⟨g,cap,cur,rfl,_,_,hnc,_⟩
 · simp [Builtin.append_,run_underlying ht,sizeOf,typeInfo,hi,Builtin.lenOf,Builtin.firstCells]
 · simp [Builtin.append_,run_underlying ht,sizeOf,typeInfo,hi,Builtin.lenOf,Builtin.firstCells,hnc,storeCells]
theorem pmq (X:World) (v:Value) (k:Nat) (l0:List Nat) (hown:X.ownsRow 0 3 1 v k (pah l0)) (rest:Value) (l:List Nat) (h:Sl X rest l) (hk:k+l.length≤1099511627776) :
 ∃ v' w',(Builtin.append_ #[22,22] 22 #[v,rest]).run Tryz.prog X=.ok v' w'∧w'.ownsRow 0 3 1 v' (k+l.length) (pah (l0 ++ l))∧Upd (foot v) (foot v') X w':=by
 obtain ⟨ao,cap,rfl,h1,h2,h3⟩:=h
 obtain ⟨iu,u1,u2,u3,u4⟩:=pfd
 cases ao with
 | none =>
  have h0:l.length=0:=by
   rcases h3 with h3 | ⟨b,e,_⟩
   · exact h3
   · cases e
  have hl:l=[]:=List.eq_nil_of_length_eq_zero h0
  subst hl
  refine ⟨v,X,pd1 X 0 _ _ 3 iu 1 Tryz.underlying22 u1 v k _ hown cap,?_,?_⟩
  · simpa using hown
  · exact Upd.refl _ _
 | some ad =>
  obtain ⟨v',w',hrun,hown',hup'⟩:=paY (P:=Tryz.prog) X 22 22 3 iu (.int .i64 0) 1 8 Tryz.underlying22 u1 u2 u3 u4 rfl (by omega) v k _ hown ad l.length cap (pah l) (by simp [pah]) (by
   intro j u hj
   have hjl:j<l.length:=by
    have:=(List.getElem?_eq_some_iff.1 hj).1
    simpa [pah] using this
   rcases h3 with h3 | ⟨b,e,hb,hc⟩
   · omega
   · injection e with e
     subst e
     have e2:(⟨b,0,none⟩:Addr).add j=⟨b,j,none⟩:=by unfold Addr.add;split <;> simp_all
     rw [e2,hc j l[j] (List.getElem?_eq_getElem hjl)]
     have:(pah l)[j]? =some (digV l[j]):=by simp [pah,hjl]
     rw [this] at hj
     exact hj) (by
   intro u hu
   simp only [pah,List.mem_map] at hu
   obtain ⟨d,_,rfl⟩:=hu
   rfl) (by omega) (by simp only [maxLen];omega)
  exact ⟨v',w',hrun,by rw [pfF];exact hown',hup'⟩
theorem pmr (k:Nat):madeCells (Value.int .i64 0).cells k=(pah (List.replicate k 0)).toArray:=by
 apply Array.ext
 · simp [madeCells,pah]
 · intro i h1 h2
   simp [madeCells,pah,digV,Value.cells,Nat.mod_one]
theorem pms (w:World) (n:Nat) (hn:n≤1000000000):(Instr.makeSlice 22 (.int .i64 (n:Int)) (.int .i64 (n:Int))).run Tryz.prog w=.ok (.slice (some ⟨w.heap.size,0,none⟩) n n) (w.alloc (.cells (pah (List.replicate n 0)).toArray 3)):=by
 obtain ⟨i0,hi,hz0,hz1,hz2⟩:=pfd
 have:=run_make (P:=Tryz.prog) w 22 3 i0 (.int .i64 0) Tryz.underlying22 hi hz0 .i64 .i64 n n (by omega) (by omega) (by rw [hz2];omega) (by omega)
 rw [this,hz1]
 simp only [Int.toNat_natCast,Nat.mul_one,pmr]
theorem piW (l:List Nat) (k x:Nat):(pah l).toArray.setIfInBounds k (.int .i64 (x:Int))=(pah (l.set k x)).toArray:=by
 simp [pah,List.map_set,digV]
theorem Sl.set {w:World} {v:Value} {l:List Nat} (h:Sl w v l) {g j:Nat} {x:Value} (hg:∀ b∈foot v,b≠g):Sl (w.setCell ⟨g,j,none⟩ x) v l:=by
 obtain ⟨ao,cap,rfl,h1,h2,h3⟩:=h
 refine ⟨ao,cap,rfl,h1,h2,?_⟩
 rcases h3 with h3 | ⟨b,rfl,hb,hc⟩
 · exact .inl h3
 · refine .inr ⟨b,rfl,by simpa using hb,fun i d hi=>?_⟩
   have hne:b≠g:=hg b (by simp [foot,Value.ownBlock])
   rw [World.cell?_setCell_other _ _ _ _ (fun e=>hne (Addr.mk.inj e).1.symm)]
   exact hc i d hi
theorem Sl.of_block {w:World} {g:Nat} {l:List Nat} {t:TypeId} (h:w.heap[g]? =some (.cells (pah l).toArray t (0,0))) (hl:l.length≤maxLen):Sl w (.slice (some ⟨g,0,none⟩) l.length l.length) l:=by
 refine ⟨_,_,rfl,Nat.le_refl _,hl,.inr ⟨g,rfl,(Array.getElem?_eq_some_iff.1 h).1,fun j d hj=>?_⟩⟩
 rw [cell_of_row w g j _ _ _ h]
 simp [pah,hj,digV]
theorem pmt (k:Nat):okL (List.replicate k 0):=fun d hd=>by rw [List.mem_replicate] at hd;omega
theorem ppK {l:List Nat} (h:okL l) {k x:Nat} (hx:x<16777216):okL (l.set k x):=by
 intro d hd
 rcases List.mem_or_eq_of_mem_set hd with h1 | h1
 · exact h d h1
 · omega
theorem pok (wr:World) (b:UInt8):(convert 124 9 (.slice (some ⟨wr.heap.size,0,none⟩) 1 1)).run Tryz.prog (wr.alloc (.cells #[.int .u8 (b.toNat:Int)] 5))=.ok (.string ⟨#[b]⟩) (wr.alloc (.cells #[.int .u8 (b.toNat:Int)] 5)) :=
 pbT (P:=Tryz.prog) (wr.alloc (.cells #[.int .u8 (b.toNat:Int)] 5)) 124 9 5 Tryz.underlying124 Tryz.underlying5 Tryz.underlying9 wr.heap.size _ _ _ (heap_alloc_new _ _) [b] rfl 0 1 1 (by simp)
def ppL (q r:Nat) (w:World) (e:Ending) (w':World):Prop:=∃ a b:ByteArray,Hid (bs a=be q)∧Hid (bs b=be r)∧e=.returned (.tuple #[.string a,.string b,.bool true])∧Upd [] [] w w'
set_option maxHeartbeats 2000000 in
theorem pmu (a b:ByteArray) (x y:Nat) (w:World) (ha:a.size≤1000000000) (hb:b.size≤1000000000) (hx:x=natB (bs a)) (hy:y=natB (bs b)) (hy0:0<y) (lx:(be x).length≤7) (ly:(be y).length≤7) :
 Calls Tryz.prog 66 #[.string a,.string b] w (ppL (x / y) (x % y) w):=by
 have bx : x < 72057594037927936 := by have:=pcW lx;have e:(256:Nat) ^ 7=72057594037927936:=by decide
                                       omega
 have by' : y < 72057594037927936 := by have:=pcW ly;have e:(256:Nat) ^ 7=72057594037927936:=by decide
                                        omega
 obtain ⟨q,hq⟩:∃ q,q=x / y:=⟨_,rfl⟩
 obtain ⟨r,hr⟩:∃ r,r=x % y:=⟨_,rfl⟩
 have hq1:(x:Int) / (y:Int)=(q:Int):=by rw [hq];simp
 have hr1:(x:Int) % (y:Int)=(r:Int):=by rw [hr];simp
 have hq2:q<9223372036854775808:=by
  have:=Nat.div_le_self x y
  omega
 have hr2:r<9223372036854775808:=by
  have:=Nat.mod_le x y
  omega
 rw [← hq,← hr]
 have HX:=Lib.hid hx
 have HY:=Lib.hid hy
 have HLX:=Lib.hid lx
 have HLY:=Lib.hid ly
 clear hx hy hq hr lx ly
 go_enter Tryz.func66,Tryz.ntmps66
 go_wp2_with fail
 refine (paU b w (by omega)).mono ?_
 rintro e w' ⟨c,HC,rfl,rfl⟩
 have hcb:bs c=be y:=by rw [HC.out,HY.out]
 have hcy:y=natB (bs c):=by rw [hcb,paK]
 have hcs:0<c.size:=by rw [paq hcb];exact phz hy0
 have hcl:c.size≤1000000000:=by rw [paq hcb];have:=HLY.out;omega
 have hb0:((c.size:Int) == 0)=false:=by rw [beq_eq_false_iff_ne];omega
 have HCY:=Lib.hid hcy
 clear hcb hcy HC
 go_wp2_with fail
 refine (pgM a x w (by omega) HX.out HLX.out).mono ?_
 rintro e w' ⟨rfl,rfl⟩
 go_wp2_with fail
 refine (pgM c y w (by omega) HCY.out HLY.out).mono ?_
 rintro e w' ⟨rfl,rfl⟩
 have hyi:0<(y:Int):=by omega
 have hxi:0≤(x:Int):=by omega
 have hu0:Upd [] [] w w.drew:=(Upd.refl _ _).drew
 have hr3:(x:Int).tmod (y:Int)=(r:Int):=by rw [Int.tmod_eq_emod_of_nonneg hxi];exact hr1
 have hq3:(x:Int).tdiv (y:Int)=(q:Int):=by rw [Int.tdiv_eq_ediv_of_nonneg hxi];exact hq1
 have hq4:IntKind.i64.wrap (q:Int)=(q:Int):=IntWalk.i64_in _ (by omega)
 have hyz:((y:Int) == 0)=false:=by rw [beq_eq_false_iff_ne];omega
 have hyn:¬ y=0:=by omega
 go_wp2_with fail
 go_region_held3 (fun _=>True) (first | trivial | assumption)
  (first
   | (go_at_call 28;((with_reducible refine (of_int q _ hq2).mono ?_);rintro e wq ⟨r1,HR1,rfl,hq⟩;have u1:=hu0.trans hq;clear hq))
   | (go_at_call 28;((with_reducible refine (of_int r _ hr2).mono ?_);rintro e wq ⟨r2,HR2,rfl,hq⟩;have u2:=u1.trans hq;clear hq)))
 go_wp2_with fail
 go_ret3
 exact ⟨r1,r2,HR1,HR2,rfl,u2⟩
structure QuoAt (x y n k:Nat) (Q:List Nat) (R:Nat):Prop where
 len:Q.length=n
 ok:okL Q
 val:valL ((dg x).drop k)=valL (Q.drop k) * y+R
 lt:R<y
theorem piX (l:List Nat) (k x:Nat) (h:k<l.length):(l.set k x).drop k=x :: l.drop (k+1):=by
 rw [List.drop_eq_getElem_cons (by simpa using h),List.getElem_set_self,List.drop_set_of_lt (by omega)]
theorem QuoAt.step {x y n j:Nat} {Q:List Nat} {R d q:Nat} (h:QuoAt x y n (j+1) Q R) (hj:j<n) (hd:(dg x)[j]? =some d) (hq:q=(d+16777216 * R) / y):QuoAt x y n j (Q.set j q) ((d+16777216 * R) % y):=by
 have hlt:=h.lt
 have hdl:d<16777216:=pdY x d (List.mem_of_getElem? hd)
 have hql:q<16777216:=by rw [hq];exact phA hlt hdl
 refine ⟨by rw [List.length_set];exact h.len,ppK h.ok hql,?_,Nat.mod_lt _ (by omega)⟩
 rw [pbK hd,piX _ _ _ (by rw [h.len];exact hj),valL]
 exact pjU h.val hq
theorem QuoAt.zero {x y n j:Nat} {Q:List Nat} {R d:Nat} (h:QuoAt x y n (j+1) Q R) (_hj:j<n) (hz:Q[j]? =some 0) (hd:(dg x)[j]? =some d) (hlt:d+16777216 * R<y):QuoAt x y n j Q (d+16777216 * R):=by
 refine ⟨h.len,h.ok,?_,hlt⟩
 rw [pbK hd,pbK hz]
 have:=pjU (x:=d) h.val (q:=0) (by rw [Nat.div_eq_of_lt hlt])
 rw [Nat.mod_eq_of_lt hlt] at this
 exact this
theorem Upd.own (w:World) (o:Obj):Upd [] [w.heap.size] w (w.alloc o):=⟨rfl,rfl,rfl,by simp,fun k hk _=>Below.heap_alloc _ _ _ hk,fun k hk=>by simp at hk;omega⟩
theorem pc1 {w w':World} {g:Nat} {o:Obj} (h:w.heap[g]? =some o) (u:Upd [] [] w w'):w'.heap[g]? =some o:=by
 rw [u.block _ (Array.getElem?_eq_some_iff.1 h).1 (by simp)];exact h
theorem row_one (w:World) (d:Nat):(w.alloc (.cells #[.int .i64 (d:Int)] 3)).ownsRow 0 3 1 (.slice (some ⟨w.heap.size,0,none⟩) 1 1) 1 (pah [d]) :=
 ⟨by simp [pah],.inr ⟨w.heap.size,1,_,rfl,Nat.zero_le _,heap_alloc_new _ _,Nat.le_refl _,by simp [maxLen],by simp,by simp [pah,digV]⟩⟩
theorem ppM {x y n:Nat} {Q:List Nat} {R:Nat} (h:QuoAt x y n 0 Q R):valL Q=x / y∧R=x % y:=by
 have hv:=h.val
 rw [List.drop_zero,List.drop_zero,pa9] at hv
 have hlt:=h.lt
 have hq:x / y=valL Q:=by
  rw [hv,Nat.mul_comm,Nat.mul_add_div (by omega),Nat.div_eq_of_lt hlt,Nat.add_zero]
 have hr:x % y=R:=by
  rw [hv,Nat.mul_comm,Nat.mul_add_mod,Nat.mod_eq_of_lt hlt]
 exact ⟨hq.symm,hr.symm⟩
theorem pj2 (s:ByteArray) (x:Nat) (w:World) (hs:s.size≤1000000000000) (hx:x=natB (bs s)) :
 Calls Tryz.prog 68 #[.string s,.int .i64 7] w (fun e w'=>∃ (z:Int) (p:Bool),Hid (p=true ↔ (be x).length≤7)∧(-9223372036854775808≤z∧z≤9223372036854775807)∧e=.returned (.tuple #[.int .i64 z,.bool p])∧w=w'):=by
 by_cases h:(be x).length≤7
 · refine (pgM s x w hs hx h).mono ?_
   rintro e w' ⟨rfl,rfl⟩
   have bx:x<72057594037927936:=by
    have:=pcW h
    have e:(256:Nat) ^ 7=72057594037927936:=by decide
    omega
   exact ⟨(x:Int),true,⟨fun _=>h,fun _=>rfl⟩,by omega,rfl,rfl⟩
 · refine (pmi s x w hs hx (by omega)).mono ?_
   rintro e w' ⟨rfl,rfl⟩
   exact ⟨0,false,⟨(fun h=>by cases h),fun h2=>absurd h2 h⟩,by omega,rfl,rfl⟩
set_option maxHeartbeats 8000000 in
theorem ppN (a b:ByteArray) (x y:Nat) (w:World) (ha:a.size≤1000000000) (hb:b.size≤1000000000) (hx:x=natB (bs a)) (hy:y=natB (bs b)) (hy0:0<y) (hs:7<(be x).length∨7<(be y).length) (dx:(dg x).length≤100000000) (dy:(dg y).length≤100000000) :
 Calls Tryz.prog 66 #[.string a,.string b] w (ppL (x / y) (x % y) w):=by
 have HX:=Lib.hid hx
 have HY:=Lib.hid hy
 have HS:=Lib.hid hs
 have HDX:=Lib.hid dx
 have HDY:=Lib.hid dy
 clear hx hy hs dx dy
 go_enter Tryz.func66,Tryz.ntmps66
 go_wp2_with fail
 refine (paU b w (by omega)).mono ?_
 rintro e w' ⟨c,HC,rfl,rfl⟩
 have hcb:bs c=be y:=by rw [HC.out,HY.out]
 have hcy:y=natB (bs c):=by rw [hcb,paK]
 have hcs:0<c.size:=by rw [paq hcb];exact phz hy0
 have hcl:c.size≤1000000000:=by
  have h1:=paE b.size y (by rw [HY.out];exact pdX (bs b))
  rw [paq hcb];omega
 have hb0:((c.size:Int) == 0)=false:=by rw [beq_eq_false_iff_ne];omega
 have HCY:=Lib.hid hcy
 clear hcb hcy HC
 go_wp2_with fail
 refine (pj2 a x w (by omega) HX.out).mono ?_
 rintro e w' ⟨z1,p1,HP1,hz1,rfl,rfl⟩
 go_wp2_with fail
 refine (pj2 c y w (by omega) HCY.out).mono ?_
 rintro e w' ⟨z2,p2,HP2,hz2,rfl,rfl⟩
 have hp:¬ (p1=true∧p2=true):=by
  rintro ⟨h1,h2⟩
  have g1:=HP1.out.1 h1
  have g2:=HP2.out.1 h2
  have:=HS.out
  omega
 have hpp:(p1=false)∨(p1=true∧p2=false):=by
  cases p1 <;> cases p2 <;> simp_all
 clear hp HP1 HP2 HS
 rcases hpp with rfl | ⟨rfl,rfl⟩
 all_goals
  go_wp2_with fail
  refine (pf7 a x w HX.out ha HDX.out).mono ?_
  rintro e w1 ⟨u,HU,rfl,hu1⟩
  go_wp2_with fail
  refine (pf7 c y w1 HCY.out hcl HDY.out).mono ?_
  rintro e w2 ⟨v,HV,rfl,hu2⟩
  have HU2:=Lib.hid (HU.out.upd hu2)
  have u2:=hu1.trans hu2
  obtain ⟨ao,cap,rfl,hc1,hc2⟩:=HU2.out.form
  obtain ⟨n,hn⟩:∃ n,n=(dg x).length:=⟨_,rfl⟩
  have hnl:n≤100000000:=by rw [hn];exact HDX.out
  rw [← hn] at hc1 HU2
  rw [← hn]
  have HN:=Lib.hid hn
  clear hn HU hu1 hu2
  go_wp2_with fail
  rw [pms w2 n (by omega)]
  have hg:=heap_alloc_new w2 (.cells (pah (List.replicate n 0)).toArray 3)
  have HG:=Lib.hid hg
  have ugw:Upd [] [] w2 (w2.alloc (.cells (pah (List.replicate n 0)).toArray 3)):=(Upd.refl _ _).alloc _
  clear hg
  go_wp2_with fail
  go_loopw [14,15] (fun rest i wr=>∃ (z:Int) (k:Nat) (Q:List Nat) (R:Nat),i=.int .i64 z∧z+1=(k:Int)∧k≤n∧Hid (QuoAt x y n k Q R)∧Hid (∀ i,i<k→Q[i]? =some 0)∧Hid (wr.heap[w2.heap.size]? =some (.cells (pah Q).toArray 3 (0,0)))∧Hid (Sl wr rest (dg R))∧Hid (Upd [] [] w2 wr)) (fun _ i _=>(intOf i+1).toNat)
  case atStart =>
   refine ⟨(n:Int) - 1,n,List.replicate n 0,0,rfl,by omega,Nat.le_refl _,⟨by simp,pmt n,?_,hy0⟩,fun i hi=>by simp [hi],HG.out,?_,ugw⟩
   · rw [List.drop_of_length_le (by rw [HN.out];omega),List.drop_of_length_le (by simp)]
     simp [valL]
   · rw [pcx];exact Sl.nil _
  case round =>
   obtain ⟨z,k,Q,R,rfl,hz,hk,HQ,HZ,HROW,HR,HUP⟩:=hrel
   by_cases h0:0<k
   · obtain ⟨j,rfl⟩:∃ j,k=j+1:=⟨k - 1,by omega⟩
     obtain rfl:z=(j:Int):=by omega
     have hjl:j<(dg x).length:=by rw [← HN.out];omega
     obtain ⟨d,hd⟩:∃ d,(dg x)[j]? =some d:=⟨_,List.getElem?_eq_getElem hjl⟩
     obtain ⟨g1,rfl,c1⟩:=(HU2.out.upd HUP.out).get hd
     have hdl:d<16777216:=pdY x d (List.mem_of_getElem? hd)
     have hRl:(dg R).length≤100000000:=Nat.le_trans (pcz (Nat.le_of_lt HQ.out.lt)) HDY.out
     have hgw:w2.heap.size<wr.heap.size:=(Array.getElem?_eq_some_iff.1 HROW.out).1
     obtain ⟨v',w',hrun,hown',hup'⟩:=pmq (wr.alloc (.cells #[.int .i64 (d:Int)] 3)) _ 1 [d] (row_one wr d) _ (dg R) (HR.out.upd ((Upd.refl _ _).alloc _)) (by omega)
     have hupw:Upd [] (foot v') wr w':=(Upd.own wr _).trans hup'
     have hupn:Upd [] [] wr w':=hupw.mono (fun _ h=>h) (fun _ h=>absurd h (by simp))
     have hfoot:∀ b∈foot v',b≠w2.heap.size:=fun b hb=>by
      rcases hupw.new b hb with h | h
      · simp at h
      · omega
     have hsl:=Sl.of_row (l:=[d] ++ dg R) (by rw [List.length_append];exact hown')
     have hokl:okL ([d] ++ dg R):=by
      intro e he
      rcases List.mem_cons.1 he with rfl | he
      · exact hdl
      · exact pdY R e he
     have hval:valL ([d] ++ dg R)=d+16777216 * R:=by
      show d+16777216 * valL (dg R)=_
      rw [pa9]
     have HRUN:=Lib.hid hrun
     have HSL:=Lib.hid hsl
     have HOK:=Lib.hid hokl
     have HVAL:=Lib.hid hval
     have HFT:=Lib.hid hfoot
     have HUPN:=Lib.hid (HUP.out.trans hupn)
     have HROW1:=Lib.hid (pc1 HROW.out hupn)
     have HD:=Lib.hid hd
     clear hjl hd hrun hown' hup' hupw hupn hfoot hsl hokl hval HUP HROW HR hz
     go_wp2_with (refine wpList_append_run _ rfl _ _ _ _ rfl _ _ v' w' rfl rfl HRUN.out ?_)
     refine (pmk v' _ w' HSL.out HOK.out).mono ?_
     rintro e w3 ⟨v2,HV2,rfl,rfl⟩
     obtain ⟨R2,hR2⟩:∃ R2,R2=d+16777216 * R:=⟨_,rfl⟩
     have hv2:Sl w' v2 (dg R2):=by rw [hR2,← HVAL.out];exact HV2.out.1
     have hf2:∀ b∈foot v2,b≠w2.heap.size:=by rw [HV2.out.2];exact HFT.out
     have HR2:=Lib.hid hR2
     have HSV2:=Lib.hid hv2
     have HF2:=Lib.hid hf2
     clear hR2 hv2 hf2 HV2 HSL HOK HVAL HFT HRUN
     go_wp2_with fail
     refine (pml v2 v R2 y w' HSV2.out (HV.out.upd HUPN.out)).mono ?_
     rintro e w4 ⟨r,HCMP,hr,rfl,hu4⟩
     have HUP4:=Lib.hid (HUPN.out.trans hu4)
     have HSV4:=Lib.hid (HSV2.out.upd hu4)
     have HROW4:=Lib.hid (pc1 HROW1.out hu4)
     clear hu4 HUPN HSV2 HROW1
     by_cases hlt:r<0
     · have hl2:d+16777216 * R<y:=by rw [← HR2.out];exact HCMP.out.1.1 hlt
       have hst:=HQ.out.zero (by omega) (HZ.out j (by omega)) HD.out hl2
       rw [← HR2.out] at hst
       have HST:=Lib.hid hst
       have HZ2:Hid (∀ i,i<j→Q[i]? =some 0):=fun i hi=>HZ.out i (by omega)
       clear hst hl2
       go_wp2_with fail
       exact ⟨⟨(j:Int) - 1,j,Q,R2,rfl,by omega,by omega,HST.out,HZ2.out,HROW4.out,HSV4.out,HUP4.out⟩,by first | (simp [intOf];done) | (simp [intOf];omega)⟩
     · have hge:y≤R2:=by
        have:=HCMP.out.1
        omega
       have hq:R2 / y<16777216:=by rw [HR2.out];exact phA HQ.out.lt hdl
       have HGE:=Lib.hid hge
       clear hge
       go_wp2_with fail
       refine (pmo v2 v R2 y w4 HSV4.out (HV.out.upd HUP4.out) hy0 hq (by have:=HDY.out;omega)).mono ?_
       rintro e w5 ⟨q,HQQ,hql,rfl,hu5⟩
       have HUP5:=Lib.hid (HUP4.out.trans hu5)
       have HSV5:=Lib.hid (HSV4.out.upd hu5)
       have HROW5:=Lib.hid (pc1 HROW4.out hu5)
       clear hu5 HUP4 HSV4 HROW4 hq
       have hjn:j<n:=by omega
       have hjq:j<Q.length:=by rw [HQ.out.len];exact hjn
       have f1:w5.frozen? ⟨w2.heap.size,j,none⟩=false:=frozen_of_row _ _ _ _ _ HROW5.out
       have hr6:=heap_setCell_same w5 w2.heap.size j _ _ (.int .i64 (q:Int)) HROW5.out
       rw [piW] at hr6
       have k0:w5.cell? ⟨w2.heap.size,j,none⟩=some (.int .i64 0):=by
        rw [cell_of_row w5 _ j _ _ _ HROW5.out]
        have:=HZ.out j (by omega)
        simp [pah,this,digV]
       have k6:(w5.setCell ⟨w2.heap.size,j,none⟩ (.int .i64 (q:Int))).cell? ⟨w2.heap.size,j,none⟩=some (.int .i64 (q:Int)):=by
        rw [cell_of_row _ _ j _ _ _ hr6]
        simp [pah,digV,hjq]
       have HROW6:=Lib.hid hr6
       have HUP6:=Lib.hid (HUP5.out.setNew (p:=⟨w2.heap.size,j,none⟩) (Nat.le_refl _) (.int .i64 (q:Int)))
       have HSV6:=Lib.hid (HSV5.out.set (j:=j) (x:=.int .i64 (q:Int)) HF2.out)
       have HST:=Lib.hid (HQ.out.step (q:=q) hjn HD.out (by rw [HQQ.out,HR2.out]))
       have HZ2:Hid (∀ i,i<j→(Q.set j q)[i]? =some 0):=fun i hi=>by rw [List.getElem?_set_ne (by omega)];exact HZ.out i (by omega)
       have p0:(0:Int)≤(j:Int):=by omega
       have p1:(j:Int)<(n:Int):=by omega
       clear hr6 HROW5 HUP5 HSV5 hjq
       go_wp2_with fail
       refine (phD v y q _ (HV.out.upd HUP6.out) hql (by have:=HDY.out;omega)).mono ?_
       rintro e w7 ⟨v3,HV3,rfl,hu7⟩
       have HUP7:=Lib.hid (HUP6.out.trans hu7)
       have HSV7:=Lib.hid (HSV6.out.upd hu7)
       have HROW7:=Lib.hid (pc1 HROW6.out hu7)
       have hle:y * q≤R2:=by rw [HQQ.out];exact Nat.mul_div_le R2 y
       have hR2l:(dg R2).length≤1000000000:=by
        have h1:R2<16777216 ^ ((dg y).length+1):=by
         rw [HR2.out,Nat.pow_succ]
         have h2:=pqH y
         have h3:=HQ.out.lt
         have h4:R+1≤16777216 ^ (dg y).length:=by omega
         omega
        have h5:=pdC _ _ h1
        have:=HDY.out
        omega
       clear hu7 HUP6 HSV6 HROW6 k0 k6 f1
       go_wp2_with fail
       refine (pmn v2 v3 R2 (y * q) w7 HSV7.out HV3.out hle hR2l).mono ?_
       rintro e w8 ⟨v4,HV4,rfl,hu8⟩
       have hrest:R2 - y * q=(d+16777216 * R) % y:=by
        rw [HQQ.out,← HR2.out]
        have:=Nat.div_add_mod R2 y
        omega
       have hs8:=HV4.out
       rw [hrest] at hs8
       have HSV8:=Lib.hid hs8
       have HUP8:=Lib.hid (HUP7.out.trans hu8)
       have HROW8:=Lib.hid (pc1 HROW7.out hu8)
       clear hrest hs8 hu8 hle hR2l
       go_wp2_with fail
       exact ⟨⟨(j:Int) - 1,j,Q.set j q,(d+16777216 * R) % y,rfl,by omega,by omega,HST.out,HZ2.out,HROW8.out,HSV8.out,HUP8.out⟩,by first | (simp [intOf];done) | (simp [intOf];omega)⟩
   · obtain rfl:k=0:=by omega
     obtain rfl:z=-1:=by omega
     have hqn:=HQ.out.len
     have hsl:=Sl.of_block HROW.out (by rw [hqn];simp only [maxLen];omega)
     rw [hqn] at hsl
     have hq1:=ppM HQ.out
     have hRl:(dg R).length≤100000000:=Nat.le_trans (pcz (Nat.le_of_lt HQ.out.lt)) HDY.out
     have HSL:=Lib.hid hsl
     have HQE:=Lib.hid hq1
     have HQN:=Lib.hid hqn
     clear hqn hsl hq1 hz h0
     go_wp2_with fail
     refine (pcZ _ Q wr HSL.out HQ.out.ok (by rw [HQN.out];exact hnl)).mono ?_
     rintro e w9 ⟨s1,HS1,rfl,hu9⟩
     go_wp2_with fail
     refine (pcZ _ (dg R) w9 (HR.out.upd hu9) (pdY R) hRl).mono ?_
     rintro e w10 ⟨s2,HS2,rfl,hu10⟩
     go_wp2_with fail
     go_ret3
     refine ⟨s1,s2,?_,?_,rfl,(u2.trans HUP.out).trans (hu9.trans hu10)⟩
     · show _=_
       rw [HS1.out,HQE.out.1]
     · show _=_
       rw [HS2.out,pa9,HQE.out.2]
theorem pol (k:Nat):(256:Nat) ^ k≤16777216 ^ k:=Nat.pow_le_pow_left (by omega) k
theorem pdI (z:Nat):(dg z).length≤(be z).length:=pdC _ _ (Nat.lt_of_lt_of_le (pl3 z) (pol _))
theorem pmv (a b:ByteArray) (x y:Nat) (w:World) (ha:bs a=be x) (hb:bs b=be y) (hy0:0<y) (lx:(be x).length≤100000000) (ly:(be y).length≤100000000) :
 Calls Tryz.prog 66 #[.string a,.string b] w (ppL (x / y) (x % y) w):=by
 have hx:x=natB (bs a):=by rw [ha,paK]
 have hy:y=natB (bs b):=by rw [hb,paK]
 have sa:a.size≤1000000000:=by rw [paq ha];omega
 have sb:b.size≤1000000000:=by rw [paq hb];omega
 by_cases h:(be x).length≤7∧(be y).length≤7
 · exact pmu a b x y w sa sb hx hy hy0 h.1 h.2
 · exact ppN a b x y w sa sb hx hy hy0 (by omega) (Nat.le_trans (pdI x) lx) (Nat.le_trans (pdI y) ly)
set_option maxHeartbeats 1000000 in
theorem pj5 (a:ByteArray) (x:Nat) (w:World) (ha:x=natB (bs a)) (hl:a.size≤100000000) (hD:(Lib.decDigits x).length≤1000000000) :
 Calls Tryz.prog 27 #[.string a] w (MkS (Lib.decDigits x) w):=by
 have HA:=Lib.hid ha
 clear ha
 go_enter Tryz.func27,Tryz.ntmps27
 go_wp2_with fail
 refine (paU a w (by omega)).mono ?_
 rintro e w' ⟨r,HR,rfl,rfl⟩
 have hr:bs r=be x:=by rw [HR.out,HA.out]
 have hrl:(be x).length≤100000000:=Nat.le_trans (paE a.size x (by rw [HA.out];exact pdX (bs a))) hl
 by_cases h0:x=0
 · subst h0
   have hs:r.size=0:=by rw [paq hr,pbg];rfl
   have hs2:((r.size:Int) == 0)=true:=by rw [beq_iff_eq];omega
   clear hr HR HA
   go_wp2_with fail
   go_ret
   exact ⟨⟨#[48]⟩,by show _=_;rw [Lib.decDigits_one (by omega)];rfl,by rw [Lib.decDigits_one (by omega)];decide,rfl,Upd.refl _ _⟩
 · have hs:0<r.size:=by rw [paq hr];exact phz (by omega)
   have hs2:((r.size:Int) == 0)=false:=by rw [beq_eq_false_iff_ne];omega
   have HB:=Lib.hid hr
   have HLL:=Lib.hid hrl
   have HDD:=Lib.hid (poj (v:=x) (by omega))
   clear hr HR HA hrl h0
   go_wp2_with fail
   go_loopw [0,3] (fun a s wr=>∃ (q:Nat) (c t:ByteArray),a=.string c∧s=.string t∧Hid (bs c=be q)∧Hid (digs q ++ bs t=digs x)∧q≤x∧Hid (Upd [] [] w wr)) (fun a _ _=>match a with | .string c=>natB (bs c) | _=>0)
   case atStart=>exact ⟨x,r,⟨#[]⟩,rfl,rfl,HB.out,by show _=_;simp [bs],Nat.le_refl _,Upd.refl _ _⟩
   case round =>
    obtain ⟨q,c,t,rfl,rfl,HC,HT,hq,HUP⟩:=hrel
    by_cases h1:0<q
    · have hcs:0<c.size:=by rw [paq HC.out];exact phz h1
      have hql:(be q).length≤100000000:=Nat.le_trans (paE (be x).length q (Nat.lt_of_le_of_lt hq (pl3 x))) HLL.out
      have HQL:=Lib.hid hql
      clear hql
      go_wp2_with fail
      refine (of_int 10 wr (by omega)).mono ?_
      rintro e w2 ⟨ten,HTEN,rfl,hu2⟩
      go_wp2_with fail
      refine (pmv c ten q 10 w2 HC.out HTEN.out (by omega) HQL.out (Nat.le_trans (paE 1 10 (by decide)) (by omega))).mono ?_
      rintro e w3 ⟨q1,r1,HQ1,HR1,rfl,hu3⟩
      go_wp2_with fail
      have hr1n:q % 10=natB (bs r1):=by rw [HR1.out,paK]
      have hr1s:r1.size≤1000000000000:=by
       rw [paq HR1.out]
       exact Nat.le_trans (paE 1 (q % 10) (by omega)) (by omega)
      refine (piU r1 (q % 10) w3 hr1s hr1n (by omega)).mono ?_
      rintro e w' ⟨rfl,rfl⟩
      obtain ⟨b,hb⟩:∃ b,b=UInt8.ofNat (48+q % 10):=⟨_,rfl⟩
      have hbn:b.toNat=48+q % 10:=by rw [hb];exact pbX (Nat.mod_lt _ (by omega))
      have hst:=pmp q h1
      rw [← hb] at hst
      have hb1:48+(q:Int) % 10=(b.toNat:Int):=by omega
      have hR2:digs (q / 10) ++ bs (⟨#[b]⟩ ++ t)=digs x:=by
       rw [pae,← HT.out,hst,List.append_assoc]
       rfl
      have htl:t.size≤1000000000:=by
       have h2:=congrArg List.length HT.out
       rw [List.length_append,pac,HDD.out] at h2
       omega
      have hb3:(ByteArray.mk #[b]).size≤1:=Nat.le_refl _
      have HR2:=Lib.hid hR2
      have HCV:=Lib.hid (pok w3 b)
      have hu4:Upd [] [] w3 (w3.alloc (.cells #[.int .u8 (b.toNat:Int)] 5)):=(Upd.refl _ _).alloc _
      have HB1:=Lib.hid hb1
      have hms:natB (bs q1)<natB (bs c):=by
       rw [HQ1.out,HC.out,paK,paK]
       omega
      have HMS:=Lib.hid hms
      clear hb hbn hst hR2 hb1 hr1n hms
      go_wp2_with fail
      rw [HB1.out,HCV.out]
      go_wp2_with fail
      exact ⟨⟨q / 10,q1,_,rfl,rfl,HQ1.out,HR2.out,by omega,HUP.out.trans ((hu2.trans hu3).trans hu4)⟩,HMS.out⟩
    · obtain rfl:q=0:=by omega
      have hcs:c.size=0:=by rw [paq HC.out,pbg];rfl
      have hres:bs t=Lib.decDigits x:=by rw [← HDD.out,← HT.out];simp [digs]
      have HRES:=Lib.hid hres
      clear hres h1
      go_wp2_with fail
      go_ret
      exact ⟨t,HRES.out,Nat.le_of_eq (paT HRES.out),rfl,HUP.out⟩
theorem pow7:(256:Nat) ^ 7=72057594037927936:=by decide
theorem pmw {x n:Nat} (hn:n≤7) (h:(be x).length≤n):x<72057594037927936:=by
 have:=pcW h
 have e:(256:Nat) ^ n≤256 ^ 7:=Nat.pow_le_pow_right (by omega) hn
 rw [pow7] at e
 omega
theorem pph (s:ByteArray) (x n:Nat) (w:World) (hs:s.size≤1000000000000) (hx:x=natB (bs s)) (hn:n≤7) :
 Calls Tryz.prog 68 #[.string s,.int .i64 (n:Int)] w (fun e w'=>∃ (z:Int) (p:Bool),Hid ((p=true ↔ (be x).length≤n)∧(p=true→z=(x:Int)))∧(-9223372036854775808≤z∧z≤9223372036854775807)∧e=.returned (.tuple #[.int .i64 z,.bool p])∧w=w'):=by
 have HX:=Lib.hid hx
 clear hx
 by_cases hb:(be x).length≤n
 · have hlt:x<9223372036854775808:=by have:=pmw hn hb;omega
   go_enter Tryz.func68,Tryz.ntmps68
   go_wp2_with fail
   refine (paU s w hs).mono ?_
   rintro e w' ⟨r,HR,rfl,rfl⟩
   have hl:r.size≤n:=by
    have:=paq HR.out
    rw [← HX.out] at this
    omega
   have HB:=Lib.hid hb
   clear hb
   go_wp2_with fail
   refine (piU s x w hs HX.out hlt).mono ?_
   rintro e w' ⟨rfl,rfl⟩
   go_wp2_with fail
   go_ret2
   exact ⟨(x:Int),true,⟨⟨fun _=>HB.out,fun _=>rfl⟩,fun _=>rfl⟩,by omega,rfl,rfl⟩
 · go_enter Tryz.func68,Tryz.ntmps68
   go_wp2_with fail
   refine (paU s w hs).mono ?_
   rintro e w' ⟨r,HR,rfl,rfl⟩
   have hl:n<r.size:=by
    have:=paq HR.out
    rw [← HX.out] at this
    omega
   have HB:=Lib.hid hb
   clear hb
   go_wp2_with fail
   go_ret2
   exact ⟨0,false,⟨⟨(fun h=>by cases h),fun h=>absurd h HB.out⟩,fun h=>by cases h⟩,by omega,rfl,rfl⟩
theorem phF (l:List Nat) (k:Nat):valL (l.take (k+1))=valL (l.take k)+16777216 ^ k * l.getD k 0:=by
 by_cases h:k<l.length
 · rw [pbL (List.getElem?_eq_getElem h),piV (List.getElem?_eq_getElem h)]
 · rw [List.take_of_length_le (by omega),List.take_of_length_le (by omega),pba (by omega)]
   omega
theorem pj8 {u v out:List Nat} {k a b r q c s:Nat} (ha:u.getD k 0=a) (hb:v.getD k 0=b) (hl:out.length=k) (h:valL out+16777216 ^ k * c=valL (u.take k)+valL (v.take k)) (hs:s=c+a+b) (hr:r=s % 16777216) (hq:q=s / 16777216) :
 valL (out ++ [r])+16777216 ^ (k+1) * q=valL (u.take (k+1))+valL (v.take (k+1)):=by
 have e:16777216 * q+r=c+a+b:=by omega
 have e2:16777216 ^ k * (16777216 * q+r)=16777216 ^ k * (c+a+b):=by rw [e]
 rw [pci,hl,phF,phF,ha,hb,Nat.pow_succ,Nat.mul_assoc]
 rw [Nat.mul_add,Nat.mul_add,Nat.mul_add] at e2
 omega
theorem pj9 (x k:Nat):(dg x).getD k 0<16777216:=by
 by_cases h:k<(dg x).length
 · rw [piV (List.getElem?_eq_getElem h)]
   exact pdY x _ (List.getElem_mem h)
 · rw [pba (by omega)]
   omega
set_option maxHeartbeats 4000000 in
theorem pk5 (a b:ByteArray) (x y:Nat) (w:World) (ha:bs a=be x) (hb:bs b=be y) (lx:(be x).length≤2000000) (ly:(be y).length≤2000000) :
 Calls Tryz.prog 29 #[.string a,.string b] w (pdb (x+y) w):=by
 have hx:x=natB (bs a):=by rw [ha,paK]
 have hy:y=natB (bs b):=by rw [hb,paK]
 have sa:a.size≤20000000:=by rw [paq ha];omega
 have sb:b.size≤20000000:=by rw [paq hb];omega
 have dx:(dg x).length≤2000000:=Nat.le_trans (pdI x) lx
 have dy:(dg y).length≤2000000:=Nat.le_trans (pdI y) ly
 have HX:=Lib.hid hx
 have HY:=Lib.hid hy
 have HD:=Lib.hid (And.intro dx dy)
 clear hx hy ha hb lx ly dx dy
 go_enter Tryz.func29,Tryz.ntmps29
 go_wp2_with fail
 refine (pph a x 7 w (by omega) HX.out (by omega)).mono ?_
 rintro e w' ⟨z1,p1,HP1,hz1,rfl,rfl⟩
 go_wp2_with fail
 refine (pph b y 7 w (by omega) HY.out (by omega)).mono ?_
 rintro e w' ⟨z2,p2,HP2,hz2,rfl,rfl⟩
 by_cases hpq:p1=true∧p2=true
 · obtain ⟨rfl,rfl⟩:=hpq
   have e1:z1=(x:Int):=HP1.out.2 rfl
   have e2:z2=(y:Int):=HP2.out.2 rfl
   have b1:=pmw (by omega) (HP1.out.1.1 rfl)
   have b2:=pmw (by omega) (HP2.out.1.1 rfl)
   subst e1
   subst e2
   have h1:(x:Int)+(y:Int)≤9223372036854775807:=by omega
   have h2:-9223372036854775808≤(x:Int)+(y:Int):=by omega
   clear HP1 HP2
   go_wp2_with fail
   rw [show (x:Int)+(y:Int)=((x+y:Nat):Int) by omega]
   refine (of_int (x+y) w (by omega)).mono ?_
   rintro e w1 ⟨r,HR,rfl,hu⟩
   go_wp2_with fail
   go_ret
   exact ⟨r,HR,rfl,hu⟩
 have HNP:Hid (p1=true→p2=false):=fun h=>by cases p2 with
  | false=>rfl
  | true=>exact absurd ⟨h,rfl⟩ hpq
 clear hpq HP1 HP2
 cases p1
 · clear HNP
   go_wp2_with fail
   refine (pf7 a x w HX.out (by omega) (by have:=HD.out.1;omega)).mono ?_
   rintro e w1 ⟨u,SU,rfl,hq⟩
   have U1:=Lib.hid hq
   clear hq
   go_wp2_with fail
   refine (pf7 b y w1 HY.out (by omega) (by have:=HD.out.2;omega)).mono ?_
   rintro e w2 ⟨v,SV,rfl,hq⟩
   have SU2:=Lib.hid (SU.out.upd hq)
   have U2:=Lib.hid (U1.out.trans hq)
   clear hq U1 SU
   obtain ⟨ao,cap,rfl,hu1,hu2⟩:=SU2.out.form
   obtain ⟨bo,cbp,rfl,hv1,hv2⟩:=SV.out.form
   obtain ⟨n,hn⟩:∃ n,n=(dg x).length:=⟨_,rfl⟩
   obtain ⟨m,hm⟩:∃ m,m=(dg y).length:=⟨_,rfl⟩
   obtain ⟨N,hN⟩:∃ N,N=max n m:=⟨_,rfl⟩
   have hn1:n≤2000000:=by have:=HD.out.1;omega
   have hm1:m≤2000000:=by have:=HD.out.2;omega
   rw [← hn] at hu1 SU2
   rw [← hm] at hv1 SV
   rw [← hn,← hm]
   have HN:=Lib.hid (And.intro hn hm)
   have hN1:n≤N:=by omega
   have hN2:m≤N:=by omega
   have hN3:N≤2000000:=by omega
   clear hn hm hN
   go_wp2_with fail
   go_loopw [11,12,13] (fun o c i wr=>∃ (k cy:Nat) (out:List Nat),i=.int .i64 (k:Int)∧c=.int .i64 (cy:Int)∧cy≤1∧(k≤N∨(k=N+1∧cy=0))∧Hid (out.length=k∧okL out∧valL out+16777216 ^ k * cy=valL ((dg x).take k)+valL ((dg y).take k))∧Hid (wr.ownsRow 0 3 1 o k (pah out))∧Hid (Upd [] (foot o) w2 wr)) (fun _ _ i _=>N+2 - (intOf i).toNat)
   case atStart=>exact ⟨0,0,[],rfl,rfl,by omega,.inl (Nat.zero_le _),⟨rfl,pe9,by simp [valL]⟩,⟨by simp [pah],.inl ⟨rfl,rfl⟩⟩,Upd.refl _ _⟩
   case round =>
    obtain ⟨k,cy,out,rfl,rfl,hcy,hkN,HI,HR,HUP⟩:=hrel
    have hup0:Upd [] [] w2 wr:=HUP.out.mono (fun _ h=>h) (fun _ h=>absurd h (by simp))
    have hkk:k≤2000001:=by omega
    obtain ⟨a1,hA⟩:∃ a1,(dg x).getD k 0=a1:=⟨_,rfl⟩
    obtain ⟨b1,hB⟩:∃ b1,(dg y).getD k 0=b1:=⟨_,rfl⟩
    have ha2:a1<16777216:=by rw [← hA];exact pj9 x k
    have hb2:b1<16777216:=by rw [← hB];exact pj9 y k
    obtain ⟨s,hs⟩:∃ s,s=cy+a1+b1:=⟨_,rfl⟩
    obtain ⟨r,hr⟩:∃ r,r=s % 16777216:=⟨_,rfl⟩
    obtain ⟨q,hq⟩:∃ q,q=s / 16777216:=⟨_,rfl⟩
    have hst:=pj8 hA hB HI.out.1 HI.out.2.2 hs hr hq
    have hr1:(s:Int) % 16777216=(r:Int):=by omega
    have hq1:(s:Int) / 16777216=(q:Int):=by omega
    have hr2:r<16777216:=by omega
    have hq2:q≤1:=by omega
    obtain ⟨v',w',hrun,hown',hup'⟩:=paV wr _ k _ (r:Int) HR.out (by omega)
    rw [← paO] at hown'
    have hl:(out ++ [r]).length=k+1:=by rw [List.length_append,HI.out.1];rfl
    have HRUN:=Lib.hid hrun
    have HOWN:=Lib.hid hown'
    have HUPP:=Lib.hid (HUP.out.trans hup')
    have HST:=Lib.hid (And.intro hl (And.intro (okL_snoc HI.out.2.1 hr2) hst))
    clear hrun hown' hup' hst hr hq hl
    have hkc:((k+1:Nat):Int)=(k:Int)+1:=by omega
    by_cases hlt1:k<n
    · by_cases hlt2:k<m
      · skip
        obtain ⟨g1,rfl,c1⟩:=(SU2.out.upd hup0).get (show (dg x)[k]? =some a1 by rw [← hA,List.getD_eq_getElem?_getD,List.getElem?_eq_getElem (by rw [← HN.out.1];exact hlt1)];rfl)
        obtain ⟨g2,rfl,c2⟩:=(SV.out.upd hup0).get (show (dg y)[k]? =some b1 by rw [← hB,List.getD_eq_getElem?_getD,List.getElem?_eq_getElem (by rw [← HN.out.2];exact hlt2)];rfl)
        obtain ⟨t1,ht1⟩:∃ t1,t1=cy+a1:=⟨_,rfl⟩
        have hs1:(cy:Int)+(a1:Int)=(t1:Int):=by omega
        have hs2:(t1:Int)+(b1:Int)=(s:Int):=by omega
        have hs3:t1<33554432:=by omega
        clear ht1
        clear hA hB hs HUP HR hup0
        go_wp2_with (refine wpList_append_run _ rfl _ _ _ _ rfl _ _ v' w' rfl rfl HRUN.out ?_)
        exact ⟨⟨k+1,q,out ++ [r],by go_num,rfl,hq2,by omega,HST.out,HOWN.out,HUPP.out⟩,by simp [intOf];omega⟩
      · skip
        obtain ⟨g1,rfl,c1⟩:=(SU2.out.upd hup0).get (show (dg x)[k]? =some a1 by rw [← hA,List.getD_eq_getElem?_getD,List.getElem?_eq_getElem (by rw [← HN.out.1];exact hlt1)];rfl)
        have hb0:b1=0:=by rw [← hB];exact pba (by rw [← HN.out.2];omega)
        have hs1:(cy:Int)+(a1:Int)=(s:Int):=by omega
        clear hA hB hs HUP HR hup0
        go_wp2_with (refine wpList_append_run _ rfl _ _ _ _ rfl _ _ v' w' rfl rfl HRUN.out ?_)
        exact ⟨⟨k+1,q,out ++ [r],by go_num,rfl,hq2,by omega,HST.out,HOWN.out,HUPP.out⟩,by simp [intOf];omega⟩
    by_cases hlt2:k<m
    · skip
      obtain ⟨g2,rfl,c2⟩:=(SV.out.upd hup0).get (show (dg y)[k]? =some b1 by rw [← hB,List.getD_eq_getElem?_getD,List.getElem?_eq_getElem (by rw [← HN.out.2];exact hlt2)];rfl)
      have ha0:a1=0:=by rw [← hA];exact pba (by rw [← HN.out.1];omega)
      have hs1:(cy:Int)+(b1:Int)=(s:Int):=by omega
      clear hA hB hs HUP HR hup0
      go_wp2_with (refine wpList_append_run _ rfl _ _ _ _ rfl _ _ v' w' rfl rfl HRUN.out ?_)
      exact ⟨⟨k+1,q,out ++ [r],by go_num,rfl,hq2,by omega,HST.out,HOWN.out,HUPP.out⟩,by simp [intOf];omega⟩
    by_cases hc0:0<cy
    · skip
      have ha0:a1=0:=by rw [← hA];exact pba (by rw [← HN.out.1];omega)
      have hb0:b1=0:=by rw [← hB];exact pba (by rw [← HN.out.2];omega)
      obtain rfl:s=cy:=by omega
      clear hA hB hs HUP HR hup0
      go_wp2_with (refine wpList_append_run _ rfl _ _ _ _ rfl _ _ v' w' rfl rfl HRUN.out ?_)
      exact ⟨⟨k+1,q,out ++ [r],by go_num,rfl,hq2,by omega,HST.out,HOWN.out,HUPP.out⟩,by simp [intOf];omega⟩
    obtain rfl:cy=0:=by omega
    have hv:valL out=x+y:=by
     have h:=HI.out.2.2
     rw [List.take_of_length_le (by rw [← HN.out.1];omega),List.take_of_length_le (by rw [← HN.out.2];omega),pa9,pa9] at h
     omega
    have HV:=Lib.hid hv
    have hl:out.length=k:=HI.out.1
    rw [← hl] at HR
    have HSL:=Lib.hid (Sl.of_row HR.out)
    have HOK:=Lib.hid HI.out.2.1
    have HUU:=Lib.hid hup0
    clear HI HR HUP HRUN HOWN HUPP HST hA hB hs hv hup0
    go_wp2_with fail
    refine (pcZ _ out wr HSL.out HOK.out (by omega)).mono ?_
    rintro e w3 ⟨z,HZ,rfl,hq⟩
    go_wp2_with fail
    go_ret
    exact ⟨z,by show _=_;rw [HZ.out,HV.out],rfl,(U2.out.trans HUU.out).trans hq⟩
 have hp2:=HNP.out rfl
 subst hp2
 clear HNP
 go_wp2_with fail
 refine (pf7 a x w HX.out (by omega) (by have:=HD.out.1;omega)).mono ?_
 rintro e w1 ⟨u,SU,rfl,hq⟩
 have U1:=Lib.hid hq
 clear hq
 go_wp2_with fail
 refine (pf7 b y w1 HY.out (by omega) (by have:=HD.out.2;omega)).mono ?_
 rintro e w2 ⟨v,SV,rfl,hq⟩
 have SU2:=Lib.hid (SU.out.upd hq)
 have U2:=Lib.hid (U1.out.trans hq)
 clear hq U1 SU
 obtain ⟨ao,cap,rfl,hu1,hu2⟩:=SU2.out.form
 obtain ⟨bo,cbp,rfl,hv1,hv2⟩:=SV.out.form
 obtain ⟨n,hn⟩:∃ n,n=(dg x).length:=⟨_,rfl⟩
 obtain ⟨m,hm⟩:∃ m,m=(dg y).length:=⟨_,rfl⟩
 obtain ⟨N,hN⟩:∃ N,N=max n m:=⟨_,rfl⟩
 have hn1:n≤2000000:=by have:=HD.out.1;omega
 have hm1:m≤2000000:=by have:=HD.out.2;omega
 rw [← hn] at hu1 SU2
 rw [← hm] at hv1 SV
 rw [← hn,← hm]
 have HN:=Lib.hid (And.intro hn hm)
 have hN1:n≤N:=by omega
 have hN2:m≤N:=by omega
 have hN3:N≤2000000:=by omega
 clear hn hm hN
 go_wp2_with fail
 go_loopw [11,12,13] (fun o c i wr=>∃ (k cy:Nat) (out:List Nat),i=.int .i64 (k:Int)∧c=.int .i64 (cy:Int)∧cy≤1∧(k≤N∨(k=N+1∧cy=0))∧Hid (out.length=k∧okL out∧valL out+16777216 ^ k * cy=valL ((dg x).take k)+valL ((dg y).take k))∧Hid (wr.ownsRow 0 3 1 o k (pah out))∧Hid (Upd [] (foot o) w2 wr)) (fun _ _ i _=>N+2 - (intOf i).toNat)
 case atStart=>exact ⟨0,0,[],rfl,rfl,by omega,.inl (Nat.zero_le _),⟨rfl,pe9,by simp [valL]⟩,⟨by simp [pah],.inl ⟨rfl,rfl⟩⟩,Upd.refl _ _⟩
 case round =>
  obtain ⟨k,cy,out,rfl,rfl,hcy,hkN,HI,HR,HUP⟩:=hrel
  have hup0:Upd [] [] w2 wr:=HUP.out.mono (fun _ h=>h) (fun _ h=>absurd h (by simp))
  have hkk:k≤2000001:=by omega
  obtain ⟨a1,hA⟩:∃ a1,(dg x).getD k 0=a1:=⟨_,rfl⟩
  obtain ⟨b1,hB⟩:∃ b1,(dg y).getD k 0=b1:=⟨_,rfl⟩
  have ha2:a1<16777216:=by rw [← hA];exact pj9 x k
  have hb2:b1<16777216:=by rw [← hB];exact pj9 y k
  obtain ⟨s,hs⟩:∃ s,s=cy+a1+b1:=⟨_,rfl⟩
  obtain ⟨r,hr⟩:∃ r,r=s % 16777216:=⟨_,rfl⟩
  obtain ⟨q,hq⟩:∃ q,q=s / 16777216:=⟨_,rfl⟩
  have hst:=pj8 hA hB HI.out.1 HI.out.2.2 hs hr hq
  have hr1:(s:Int) % 16777216=(r:Int):=by omega
  have hq1:(s:Int) / 16777216=(q:Int):=by omega
  have hr2:r<16777216:=by omega
  have hq2:q≤1:=by omega
  obtain ⟨v',w',hrun,hown',hup'⟩:=paV wr _ k _ (r:Int) HR.out (by omega)
  rw [← paO] at hown'
  have hl:(out ++ [r]).length=k+1:=by rw [List.length_append,HI.out.1];rfl
  have HRUN:=Lib.hid hrun
  have HOWN:=Lib.hid hown'
  have HUPP:=Lib.hid (HUP.out.trans hup')
  have HST:=Lib.hid (And.intro hl (And.intro (okL_snoc HI.out.2.1 hr2) hst))
  clear hrun hown' hup' hst hr hq hl
  have hkc:((k+1:Nat):Int)=(k:Int)+1:=by omega
  by_cases hlt1:k<n
  · by_cases hlt2:k<m
    · skip
      obtain ⟨g1,rfl,c1⟩:=(SU2.out.upd hup0).get (show (dg x)[k]? =some a1 by rw [← hA,List.getD_eq_getElem?_getD,List.getElem?_eq_getElem (by rw [← HN.out.1];exact hlt1)];rfl)
      obtain ⟨g2,rfl,c2⟩:=(SV.out.upd hup0).get (show (dg y)[k]? =some b1 by rw [← hB,List.getD_eq_getElem?_getD,List.getElem?_eq_getElem (by rw [← HN.out.2];exact hlt2)];rfl)
      obtain ⟨t1,ht1⟩:∃ t1,t1=cy+a1:=⟨_,rfl⟩
      have hs1:(cy:Int)+(a1:Int)=(t1:Int):=by omega
      have hs2:(t1:Int)+(b1:Int)=(s:Int):=by omega
      have hs3:t1<33554432:=by omega
      clear ht1
      clear hA hB hs HUP HR hup0
      go_wp2_with (refine wpList_append_run _ rfl _ _ _ _ rfl _ _ v' w' rfl rfl HRUN.out ?_)
      exact ⟨⟨k+1,q,out ++ [r],by go_num,rfl,hq2,by omega,HST.out,HOWN.out,HUPP.out⟩,by simp [intOf];omega⟩
    · skip
      obtain ⟨g1,rfl,c1⟩:=(SU2.out.upd hup0).get (show (dg x)[k]? =some a1 by rw [← hA,List.getD_eq_getElem?_getD,List.getElem?_eq_getElem (by rw [← HN.out.1];exact hlt1)];rfl)
      have hb0:b1=0:=by rw [← hB];exact pba (by rw [← HN.out.2];omega)
      have hs1:(cy:Int)+(a1:Int)=(s:Int):=by omega
      clear hA hB hs HUP HR hup0
      go_wp2_with (refine wpList_append_run _ rfl _ _ _ _ rfl _ _ v' w' rfl rfl HRUN.out ?_)
      exact ⟨⟨k+1,q,out ++ [r],by go_num,rfl,hq2,by omega,HST.out,HOWN.out,HUPP.out⟩,by simp [intOf];omega⟩
  by_cases hlt2:k<m
  · skip
    obtain ⟨g2,rfl,c2⟩:=(SV.out.upd hup0).get (show (dg y)[k]? =some b1 by rw [← hB,List.getD_eq_getElem?_getD,List.getElem?_eq_getElem (by rw [← HN.out.2];exact hlt2)];rfl)
    have ha0:a1=0:=by rw [← hA];exact pba (by rw [← HN.out.1];omega)
    have hs1:(cy:Int)+(b1:Int)=(s:Int):=by omega
    clear hA hB hs HUP HR hup0
    go_wp2_with (refine wpList_append_run _ rfl _ _ _ _ rfl _ _ v' w' rfl rfl HRUN.out ?_)
    exact ⟨⟨k+1,q,out ++ [r],by go_num,rfl,hq2,by omega,HST.out,HOWN.out,HUPP.out⟩,by simp [intOf];omega⟩
  by_cases hc0:0<cy
  · skip
    have ha0:a1=0:=by rw [← hA];exact pba (by rw [← HN.out.1];omega)
    have hb0:b1=0:=by rw [← hB];exact pba (by rw [← HN.out.2];omega)
    obtain rfl:s=cy:=by omega
    clear hA hB hs HUP HR hup0
    go_wp2_with (refine wpList_append_run _ rfl _ _ _ _ rfl _ _ v' w' rfl rfl HRUN.out ?_)
    exact ⟨⟨k+1,q,out ++ [r],by go_num,rfl,hq2,by omega,HST.out,HOWN.out,HUPP.out⟩,by simp [intOf];omega⟩
  obtain rfl:cy=0:=by omega
  have hv:valL out=x+y:=by
   have h:=HI.out.2.2
   rw [List.take_of_length_le (by rw [← HN.out.1];omega),List.take_of_length_le (by rw [← HN.out.2];omega),pa9,pa9] at h
   omega
  have HV:=Lib.hid hv
  have hl:out.length=k:=HI.out.1
  rw [← hl] at HR
  have HSL:=Lib.hid (Sl.of_row HR.out)
  have HOK:=Lib.hid HI.out.2.1
  have HUU:=Lib.hid hup0
  clear HI HR HUP HRUN HOWN HUPP HST hA hB hs hv hup0
  go_wp2_with fail
  refine (pcZ _ out wr HSL.out HOK.out (by omega)).mono ?_
  rintro e w3 ⟨z,HZ,rfl,hq⟩
  go_wp2_with fail
  go_ret
  exact ⟨z,by show _=_;rw [HZ.out,HV.out],rfl,(U2.out.trans HUU.out).trans hq⟩
end Go.Proofs.YtheobkejohifaaaGreatDoor

namespace Go.Proofs.YtheobkejohifaaaGreatDoor
set_option maxRecDepth 100000
open Go Go.RowKit
end Go.Proofs.YtheobkejohifaaaGreatDoor
