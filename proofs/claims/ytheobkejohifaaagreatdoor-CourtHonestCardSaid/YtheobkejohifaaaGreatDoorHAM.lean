/- entry.Print and what follows. -/
import Derived.Test.YtheobkejohifaaaGreatDoorHAL
import Derived.Test.YtheobkejohifaaaGreatDoorHAA
import Derived.Test.YtheobkejohifaaaGreatDoorHAJ
import Derived.Test.YtheobkejohifaaaGreatDoorHAI
import Derived.Test.YtheobkejohifaaaGreatDoorHAK
import Derived.Test.YtheobkejohifaaaGreatDoorHAH
import Derived.Test.YtheobkejohifaaaGreatDoorHAG
namespace Go.Proofs.YtheobkejohifaaaGreatDoor
open Go.RowKit
set_option maxRecDepth 100000


def RdAt (w:World) (g:Nat) (rest:ByteArray) (wrong:Bool):Prop:=w.heap[g]? =some (.cells #[.string rest,.bool wrong] 272 (0,0))
theorem pdn (s:ByteArray) (c:UInt8) (w:World) (hs:s.size≤4000000000) (htab:Tabs w) :
 Calls Tryz.prog 187 #[.string s,.string (ByteArray.mk #[c])] w (fun e w'=>∃ (l r:ByteArray) (b:Bool),Hid (bs l=(Lib.cut (bs s) [c]).1)∧Hid (bs r=(Lib.cut (bs s) [c]).2.1)∧Hid (b=(Lib.cut (bs s) [c]).2.2)∧l.size≤s.size∧r.size≤s.size∧e=.returned (.tuple #[.string l,.string r,.bool b])∧Upd [] [] w w'):=by
 obtain ⟨m,hm⟩:=htab.mc
 refine (Tryz.strings_Cut s (ByteArray.mk #[c]) m w (by omega) hm).mono ?_
 rintro e w' ⟨rfl,n,rfl⟩
 have h:(Lib.cut (bs s) [c]).1.length≤s.size∧(Lib.cut (bs s) [c]).2.1.length≤s.size:=by
  unfold Lib.cut
  split
  · simp [pac];omega
  · simp [pac]
 exact ⟨⟨(Lib.cut (bs s) [c]).1.toArray⟩,⟨(Lib.cut (bs s) [c]).2.1.toArray⟩,_,rfl,rfl,rfl,h.1,h.2,rfl,(Upd.refl _ _).drewN n⟩

theorem pal {w:World} {g L:Nat} {o:Obj} (h:w.heap[g]? =some o) (n:g≠L) (cs:Array Value):(w.setRow L cs).heap[g]? =some o:=by
 unfold World.setRow
 rw [Array.getElem?_modify,if_neg (fun e=>n e.symm)]
 exact h
theorem wpList_store_rowAs {P:Program} {ops:Array Oper} {rest:List Oper} {o:Oper} {a:Act} {w:World} {Q:Exit→Act→World→Prop} (hgd:o.guard=none) (ty:TypeId) (x y:Operand) (ho:o.op=.store ty x y)
 (g:Nat) (cells:Array Value) (hx:a.eval x=.pointer (some ⟨g,0,none⟩)) (hy:a.eval y=.agg cells)
 (t:TypeId) (old:Array Value) (hg:w.heap[g]? =some (.cells old t (0,0))) (hi:(P.info? ty).map (·.size)=some cells.size)
 (hold:old.size=cells.size) (h1:cells.all (·.oneCell')=true) (w':World) (hw:w.setRow g cells=w')
 (h:wpList P ops Q rest (a.put o.dst undef) w'):wpList P ops Q (o :: rest) a w:=by
 subst hw
 exact wpList_store_row hgd ty x y ho g cells hx hy t old hg hi hold h1 h
theorem pkk {p:ByteArray} {l:List UInt8} (h:bs p=l):p=⟨l.toArray⟩:=by
 cases p with
 | mk d =>
  simp only [bs] at h
  subst h
  simp
theorem ppk {n:Nat} (h:n<9223372036854775808):(be n).length≤8:=paE 8 n (Nat.lt_trans h (by decide))
theorem phO {p:ByteArray} (h:bs p=be 1):p=⟨#[1]⟩:=pkk (h.trans pdJ)
theorem pmM {p:ByteArray} (h:bs p=be 0):p=⟨#[]⟩:=pkk (h.trans pbg)
theorem pgP (a:ByteArray) (n:Nat) (w:World) (ha:bs a=be n) (hl:(be n).length≤1000000):Calls Tryz.prog 65 #[.string a] w (phC n w):=by
 have h:=paU a w (by rw [paq ha];omega)
 rw [ha,paK] at h
 exact h
theorem pgQ (w:World):Calls Tryz.prog 161 #[.string ⟨#[1]⟩,.string ⟨#[1]⟩] w (Ret (.int .i64 0) w):=by
 have HC:=Lib.hid (fun W=>pgP ⟨#[1]⟩ 1 W pdJ.symm (by rw [pdJ];decide))
 go_enter Tryz.func161,Tryz.ntmps161
 go_wp2_with fail
 refine (HC.out w).mono ?_
 rintro e w' ⟨p,HP,rfl,rfl⟩
 obtain rfl:=phO HP.out
 clear HP
 go_wp2_with fail
 refine (HC.out w).mono ?_
 rintro e w' ⟨p,HP,rfl,rfl⟩
 obtain rfl:=phO HP.out
 clear HP
 go_wp2_with fail
 go_ret
 exact ⟨rfl,rfl⟩
set_option maxHeartbeats 1000000 in
theorem ppS (a:ByteArray) (n:Nat) (w:World) (ha:bs a=be n) (hn:n<9223372036854775808):Calls Tryz.prog 247 #[.string a,.string ⟨#[1]⟩] w (pdb 1 w):=by
 have HC:=Lib.hid (fun W=>pgP ⟨#[1]⟩ 1 W pdJ.symm (by rw [pdJ];decide))
 have HA:=Lib.hid (fun W=>pgP a n W ha (by have:=ppk hn;omega))
 have HL:=Lib.hid (ppk hn)
 clear ha hn
 go_enter Tryz.func247,Tryz.ntmps247
 go_wp2_with fail
 refine (HA.out w).mono ?_
 rintro e w' ⟨p,HP,rfl,rfl⟩
 go_wp2_with fail
 refine (HC.out w).mono ?_
 rintro e w' ⟨q,HQ,rfl,rfl⟩
 obtain rfl:=phO HQ.out
 clear HQ
 go_wp2_with fail
 refine wp_loop_rounds 2 ?_
 rw [rounds_succ]
 go_wp2_with fail
 refine (pmv p ⟨#[1]⟩ n 1 w HP.out pdJ.symm (by omega) (by have:=HL.out;omega) (by rw [pdJ];decide)).mono ?_
 rintro e w2 ⟨b1,b2,HB1,HB2,rfl,hu2⟩
 rw [Nat.mod_one] at HB2
 obtain rfl:=pmM HB2.out
 have HU:=Lib.hid hu2
 clear HB1 HB2 HP hu2 HA HC
 go_wp2_with fail
 rw [rounds_succ]
 go_wp2_with fail
 go_ret
 exact ⟨_,by show _=_;exact pdJ.symm,rfl,HU.out⟩
theorem pmN:∀ (n:Nat),0<n→∃ c r,be n=c :: r∧c≠0
 | n,h=>by
  rw [pe8 h]
  by_cases h0:n / 256=0
  · rw [h0,pbg]
    refine ⟨_,[],rfl,fun hc=>?_⟩
    have h1:=congrArg UInt8.toNat hc
    rw [UInt8.toNat_ofNat'] at h1
    have h2:(0:UInt8).toNat=0:=rfl
    rw [h2] at h1
    omega
  · obtain ⟨c,r,e,hc⟩:=pmN (n / 256) (by omega)
    rw [e]
    exact ⟨c,r ++ [_],rfl,hc⟩
 termination_by n=>n
 decreasing_by omega
theorem pfj (a:ByteArray) (n:Nat) (w:World) (ha:bs a=be n):Calls Tryz.prog 246 #[.string a] w (Ret (.bool true) w):=by
 by_cases h0:n=0
 · subst h0
   obtain rfl:=pmM ha
   go_enter Tryz.func246,Tryz.ntmps246
   go_wp2_with fail
   go_ret
   exact ⟨rfl,rfl⟩
 · have hs:0<a.size:=by rw [paq ha];exact phz (by omega)
   have hs2:((a.size:Int) == 0)=false:=by rw [beq_eq_false_iff_ne];omega
   have hz:((a[0].toNat:Int) == 0)=false:=by
    rw [beq_eq_false_iff_ne]
    intro h
    obtain ⟨c,r,e,hc⟩:=pmN n (by omega)
    have h3:=pjZ a hs
    rw [ha,e] at h3
    injection h3 with h4 _
    exact hc (h4.trans (piT h))
   have hz2:((a[0].toNat:Int) != 0)=true:=by rw [bne,hz];rfl
   clear ha h0
   go_enter Tryz.func246,Tryz.ntmps246
   go_wp2_with fail
   go_ret
   exact ⟨rfl,rfl⟩
theorem pkl (w:World):Calls Tryz.prog 28 #[.int .i64 1] w (Mk (.string ⟨#[1]⟩) w):=by
 refine (of_int 1 w (by omega)).mono ?_
 rintro e w1 ⟨r,HR,rfl,hu⟩
 obtain rfl:=phO HR.out
 exact ⟨rfl,hu⟩
def ratV (N:ByteArray):Array Value:=#[.bool false,.string N,.string ⟨#[1]⟩]
set_option maxHeartbeats 1000000 in
theorem pi5 (N:ByteArray) (n:Nat) (w:World) (hN:bs N=be n) (hn:n<9223372036854775808):Calls Tryz.prog 202 #[.agg (ratV N)] w (Mk (.bool true) w):=by
 obtain ⟨g,hg⟩:∃ g,w.heap.size=g:=⟨_,rfl⟩
 obtain ⟨w0,hw0⟩:∃ W,w.alloc (.cells (ratV N) 159)=W:=⟨_,rfl⟩
 have r0:w0.heap[g]? =some (.cells (ratV N) 159 (0,0)):=by rw [← hg,← hw0];exact heap_alloc_new _ _
 have u0:Upd [] [] w w0:=by rw [← hw0];exact (Upd.refl _ _).alloc _
 have U0:=Lib.hid u0
 have HK:Hid (∀ W,Upd [] [] w0 W→W.cell? ⟨g,0,none⟩=some (.bool false)∧W.cell? ⟨g,1,none⟩=some (.string N)∧W.cell? ⟨g,2,none⟩=some (.string ⟨#[1]⟩)):=by
  intro W u
  have q:=paa r0 u
  exact ⟨cell_of_row _ g 0 _ _ _ q,cell_of_row _ g 1 _ _ _ q,cell_of_row _ g 2 _ _ _ q⟩
 have ud0:Upd [] [] w0 w0.drew:=(Upd.refl _ _).drew
 have HR1:=Lib.hid (pfj N n w0 hN)
 have HR2:=Lib.hid (pfj ⟨#[1]⟩ 1 w0 pdJ.symm)
 obtain ⟨c0,c1,c2⟩:=HK.out w0 (Upd.refl _ _)
 clear r0 u0
 by_cases h0:n=0
 · subst h0
   obtain rfl:=pmM hN
   clear hN hn
   go_enter Tryz.func202,Tryz.ntmps202
   go_wp2_with fail
   refine HR1.out.mono ?_
   rintro e w' ⟨rfl,rfl⟩
   go_wp2_with fail
   refine HR2.out.mono ?_
   rintro e w' ⟨rfl,rfl⟩
   go_upto_region 6 with (fail)
   refine wp_region_noPanic ?_
   refine wp_region_held_drew (S:=fun wp=>wp.cell? ⟨g,0,none⟩=some (.bool false)∧wp.cell? ⟨g,2,none⟩=some (.string ⟨#[1]⟩)) (by kernel_rfl) ?_ (fun hHeld=>?_)
   · exact ⟨(HK.out _ ud0).1,(HK.out _ ud0).2.2⟩
   refine tkY 0 hHeld ?_
   refine tkY 1 hHeld ?_
   refine tkY 2 hHeld ?_
   refine tkY 3 hHeld ?_
   refine tkY 4 hHeld ?_
   refine tkY 5 hHeld ?_
   refine tk1 6 fun K hK=>?_
   rw [if_pos (by rfl)];go_simp;refine (pkl _).mono ?_;rintro e wv1 ⟨rfl,hq⟩;have ud1:=ud0.trans hq;clear hq;go_wp2_with fail
   refine tkK hK (⟨(HK.out _ ud1).1,(HK.out _ ud1).2.2⟩) fun hHeld=>?_
   clear hK K
   refine tk1 7 fun K hK=>?_
   rw [if_pos (by rfl)];go_simp;refine (pgQ _).mono ?_;rintro e wv2 ⟨rfl,rfl⟩;go_wp2_with fail
   refine tkK hK (⟨(HK.out _ ud1).1,(HK.out _ ud1).2.2⟩) fun hHeld=>?_
   clear hK K
   refine tkY 8 hHeld ?_
   refine tkY 9 hHeld ?_
   refine tkY 10 hHeld ?_
   refine wpAnyH_done (by kernel_rfl) ?_ _
   refine NoPanic.normal ?_
   go_wp2_with fail
   go_ret
   exact ⟨rfl,U0.out.trans ud1⟩
 · have hs:0<N.size:=by rw [paq hN];exact phz (by omega)
   have hne:(N.toList == [])=false:=by
    rw [beq_eq_false_iff_ne]
    intro e
    rw [ByteArray.toList_eq] at e
    have:=congrArg List.length e
    rw [show N.data.toList.length=N.size from rfl] at this
    have h3:N.size=0:=this
    omega
   have HG:=Lib.hid (fun W=>ppS N n W hN hn)
   clear hN hn h0
   go_enter Tryz.func202,Tryz.ntmps202
   go_wp2_with fail
   refine HR1.out.mono ?_
   rintro e w' ⟨rfl,rfl⟩
   go_wp2_with fail
   refine HR2.out.mono ?_
   rintro e w' ⟨rfl,rfl⟩
   go_wp2_with fail
   refine (HG.out w0).mono ?_
   rintro e w2 ⟨r,HR,rfl,hu⟩
   obtain rfl:=phO HR.out
   have U2:=Lib.hid (U0.out.trans hu)
   clear HR hu HG
   go_wp2_with fail
   refine (pkl w2).mono ?_
   rintro e w3 ⟨rfl,hu⟩
   have U3:=Lib.hid (U2.out.trans hu)
   clear hu
   go_wp2_with fail
   refine (pgQ w3).mono ?_
   rintro e w4 ⟨rfl,rfl⟩
   go_wp2_with fail
   go_ret
   exact ⟨rfl,U3.out⟩
def ratZ:Array Value:=#[.bool false,.string ⟨#[]⟩,.string ⟨#[]⟩]
theorem pi6 (N:ByteArray):(Tryz.prog.info? 159).map (·.size)=some (ratV N).size:=by
 show _=some 3
 kernel_rfl
theorem pi7 (N:ByteArray) (n:Nat) (w:World) (hN:bs N=be n) (hn:n<9223372036854775808):Calls Tryz.prog 160 #[.agg (ratV N)] w (Mk (.agg (ratV N)) w):=by
 have HR:=Lib.hid (fun W=>pi5 N n W hN hn)
 obtain ⟨RV,hRV⟩:∃ RV,RV=ratV N:=⟨_,rfl⟩
 have HI:Hid ((Tryz.prog.info? 159).map (·.size)=some RV.size):=by rw [hRV];exact pi6 N
 have HZ:Hid (ratZ.size=RV.size):=by show _=_;rw [hRV];rfl
 have HO:Hid (RV.all (·.oneCell')=true):=by show _=_;rw [hRV];simp [ratV,Value.oneCell']
 rw [← hRV] at HR ⊢
 obtain ⟨g,hg⟩:∃ g,w.heap.size=g:=⟨_,rfl⟩
 obtain ⟨w0,hw0⟩:∃ W,w.alloc (.cells RV 159)=W:=⟨_,rfl⟩
 have r0:w0.heap[g]? =some (.cells RV 159 (0,0)):=by rw [← hg,← hw0];exact heap_alloc_new _ _
 have u0:Upd [] [] w w0:=by rw [← hw0];exact (Upd.refl _ _).alloc _
 obtain ⟨gR,hgR⟩:∃ g,w0.heap.size=g:=⟨_,rfl⟩
 obtain ⟨w1,hw1⟩:∃ W,w0.alloc (.cells #[.bool false,.string ⟨#[]⟩,.string ⟨#[]⟩] 159)=W:=⟨_,rfl⟩
 have s1:=Lib.hid (show w1.heap[gR]? =some (.cells ratZ 159 (0,0)) by rw [← hgR,← hw1];exact heap_alloc_new _ _)
 have u1:Upd [] [] w0 w1:=by rw [← hw1];exact (Upd.refl _ _).alloc _
 have r1:=Lib.hid (paa r0 u1)
 have hlt:w.heap.size≤gR:=by rw [← hgR];exact u0.size
 have HL:=Lib.hid hlt
 have U1:=Lib.hid (u0.trans u1)
 clear hN hn hRV r0 u0 u1 hlt
 go_enter Tryz.func160,Tryz.ntmps160
 go_wp2_with (refine wpList_load_row rfl 159 _ rfl g rfl _ RV _ _ r1.out Tryz.underlying159 rfl HI.out ?_)
 refine (HR.out w1).mono ?_
 rintro e w2 ⟨rfl,hq⟩
 have r2:=Lib.hid (paa r1.out hq)
 have s2:=Lib.hid (paa s1.out hq)
 have U2:=Lib.hid (U1.out.trans hq)
 clear hq r1 s1 U1 HR
 go_wp2_with (first | (refine wpList_load_row rfl 159 _ rfl g rfl _ RV _ _ r2.out Tryz.underlying159 rfl HI.out ?_) | (refine wpList_store_row rfl 159 _ _ rfl gR RV rfl rfl _ _ s2.out HI.out HZ.out HO.out ?_))
 refine bodyPost_ret (results_cell_row rfl _ _ gR _ RV _ _ rfl (setRow_heap _ _ _ _ _ _ s2.out) Tryz.underlying159 rfl HI.out) rfl ⟨rfl,U2.out.setRowNew HL.out _⟩
theorem pov (n:Nat) (w:World) (hn:n<9223372036854775808):Calls Tryz.prog 111 #[.int .i64 (n:Int)] w (fun e w'=>∃ N:ByteArray,Hid (bs N=be n)∧e=.returned (.agg (ratV N))∧Upd [] [] w w'):=by
 obtain ⟨gR,hgR⟩:∃ g,w.heap.size=g:=⟨_,rfl⟩
 obtain ⟨w1,hw1⟩:∃ W,w.alloc (.cells #[.bool false,.string ⟨#[]⟩,.string ⟨#[]⟩] 159)=W:=⟨_,rfl⟩
 have s1:=Lib.hid (show w1.heap[gR]? =some (.cells ratZ 159 (0,0)) by rw [← hgR,← hw1];exact heap_alloc_new _ _)
 have u1:=Lib.hid (show Upd [] [] w w1 by rw [← hw1];exact (Upd.refl _ _).alloc _)
 have HL:Hid (w.heap.size≤gR):=Nat.le_of_eq hgR
 go_enter Tryz.func111,Tryz.ntmps111
 go_wp2_with fail
 refine (of_int n w1 (by omega)).mono ?_
 rintro e w2 ⟨N,HN,rfl,hq⟩
 have s2:=Lib.hid (paa s1.out hq)
 have U2:=Lib.hid (u1.out.trans hq)
 clear hq
 go_wp2_with fail
 refine (pkl w2).mono ?_
 rintro e w3 ⟨rfl,hq⟩
 have s3:=Lib.hid (paa s2.out hq)
 have U3:=Lib.hid (U2.out.trans hq)
 obtain ⟨RV,hRV⟩:∃ RV,RV=ratV N:=⟨_,rfl⟩
 have HI:Hid ((Tryz.prog.info? 159).map (·.size)=some RV.size):=by rw [hRV];exact pi6 N
 have HZ:Hid (ratZ.size=RV.size):=by show _=_;rw [hRV];rfl
 have HO:Hid (RV.all (·.oneCell')=true):=by show _=_;rw [hRV];simp [ratV,Value.oneCell']
 have HB:Hid (Tryz.prog.built 159 [(1,.string N),(2,.string ⟨#[1]⟩)]=some RV):=by show _=_;rw [hRV];kernel_rfl
 have HRV:=Lib.hid hRV
 clear hq hRV
 go_wp2_with (first | (refine wpList_buildTo rfl 159 _ rfl _ rfl RV (Eq.trans (congrArg (fun z=>Tryz.prog.built 159 z) (by kernel_rfl)) HB.out) ?_) | (refine wpList_store_row rfl 159 _ _ rfl gR RV rfl rfl _ _ s3.out HI.out HZ.out HO.out ?_))
 refine bodyPost_ret (results_cell_row rfl _ _ gR _ RV _ _ rfl (setRow_heap _ _ _ _ _ _ s3.out) Tryz.underlying159 rfl HI.out) rfl ⟨N,HN,by rw [HRV.out],U3.out.setRowNew HL.out _⟩
set_option maxHeartbeats 1000000 in
theorem pk6 (N:ByteArray) (n:Nat) (w:World) (hN:bs N=be n) (hn:n<9223372036854775808):Calls Tryz.prog 110 #[.agg (ratV N)] w (MkS (Lib.itoa (n:Int)) w):=by
 have HV:=Lib.hid (fun W=>pi7 N n W hN hn)
 have HTX:=Lib.hid (fun W=>pd2 n W N hN hn)
 obtain ⟨RV,hRV⟩:∃ RV,RV=ratV N:=⟨_,rfl⟩
 have HI:Hid ((Tryz.prog.info? 159).map (·.size)=some RV.size):=by rw [hRV];exact pi6 N
 have HO:Hid (RV.all (·.oneCell')=true):=by show _=_;rw [hRV];simp [ratV,Value.oneCell']
 obtain ⟨g,hg⟩:∃ g,w.heap.size=g:=⟨_,rfl⟩
 obtain ⟨w0,hw0⟩:∃ W,w.alloc (.cells RV 159)=W:=⟨_,rfl⟩
 have r0:=Lib.hid (show w0.heap[g]? =some (.cells RV 159 (0,0)) by rw [← hg,← hw0];exact heap_alloc_new _ _)
 have u0:=Lib.hid (show Upd [] [] w w0 by rw [← hw0];exact (Upd.refl _ _).alloc _)
 have HL:Hid (w.heap.size≤g):=Nat.le_of_eq hg
 have HC:Hid (∀ W:World,W.heap[g]? =some (.cells RV 159 (0,0))→W.cell? ⟨g,0,none⟩=some (.bool false)∧W.cell? ⟨g,1,none⟩=some (.string N)∧W.cell? ⟨g,2,none⟩=some (.string ⟨#[1]⟩)):=by
  intro W q
  rw [hRV] at q
  exact ⟨cell_of_row _ g 0 _ _ _ q,cell_of_row _ g 1 _ _ _ q,cell_of_row _ g 2 _ _ _ q⟩
 rw [← hRV] at HV ⊢
 clear hN hn hRV
 go_enter Tryz.func110,Tryz.ntmps110
 go_wp2_with (refine wpList_load_row rfl 159 _ rfl g rfl _ RV _ _ r0.out Tryz.underlying159 rfl HI.out ?_)
 refine (HV.out w0).mono ?_
 rintro e w1 ⟨rfl,hq⟩
 have r1:=Lib.hid (paa r0.out hq)
 have U1:=Lib.hid (u0.out.trans hq)
 obtain ⟨w2,hw2⟩:∃ W,w1.setRow g RV=W:=⟨_,rfl⟩
 have r2:=Lib.hid (show w2.heap[g]? =some (.cells RV 159 (0,0)) by rw [← hw2];exact setRow_heap _ _ _ _ _ _ r1.out)
 have U2:=Lib.hid (show Upd [] [] w w2 by rw [← hw2];exact U1.out.setRowNew HL.out _)
 have HW2:=Lib.hid hw2
 obtain ⟨c0,c1,c2⟩:=HC.out w2 r2.out
 clear hq r0 u0 U1 HV hw2
 go_wp2_with (first | (refine wpList_store_rowAs rfl 159 _ _ rfl g RV rfl rfl _ _ r1.out HI.out rfl HO.out w2 HW2.out ?_))
 refine (HTX.out w2).mono ?_
 rintro e w3 ⟨y,HY,hy,rfl,hq⟩
 have r3:=Lib.hid (paa r2.out hq)
 have U3:=Lib.hid (U2.out.trans hq)
 have HK:Hid (∀ W,Upd [] [] w3 W→W.cell? ⟨g,2,none⟩=some (.string ⟨#[1]⟩)):=fun W u=>(HC.out W (paa r3.out u)).2.2
 obtain ⟨c0,c1,c2⟩:=HC.out w3 r3.out
 have ud0:Upd [] [] w3 w3.drew:=(Upd.refl _ _).drew
 clear hq r1 r2 HTX HC
 go_upto_region 5 with (fail)
 refine wp_region_noPanic ?_
 refine wp_region_held_drew (S:=fun wp=>wp.cell? ⟨g,2,none⟩=some (.string ⟨#[1]⟩)) (by kernel_rfl) ?_ (fun hHeld=>?_)
 · exact HK.out _ ud0
 refine tkY 0 hHeld ?_
 refine tkY 1 hHeld ?_
 refine tk1 2 fun K hK=>?_
 go_simp;refine (pkl _).mono ?_;rintro e wv1 ⟨rfl,hq⟩;have ud1:=ud0.trans hq;clear hq;go_wp2_with fail
 refine tkK hK (HK.out _ ud1) fun hHeld=>?_
 clear hK K
 refine tk1 3 fun K hK=>?_
 go_simp;refine (pgQ _).mono ?_;rintro e wv2 ⟨rfl,rfl⟩;go_wp2_with fail
 refine tkK hK (HK.out _ ud1) fun hHeld=>?_
 clear hK K
 refine tkY 4 hHeld ?_
 refine wpAnyH_done (by kernel_rfl) ?_ _
 refine NoPanic.normal ?_
 go_wp2_with fail
 go_ret
 refine ⟨y,?_,?_,rfl,U3.out.trans ud1⟩
 · show _=_
   rw [HY.out];exact (pbF n).symm
 · have:=pbF n
   show _≤(Lib.itoa (n:Int)).length
   rw [this];exact hy
theorem pb0 (n:Nat) (w:World) (hn:n<9223372036854775808):Calls Tryz.prog 48 #[.int .i64 (n:Int)] w (MkS (Lib.itoa (n:Int)) w):=by
 go_enter Tryz.func48,Tryz.ntmps48
 go_wp2_with fail
 refine (pov n w hn).mono ?_
 rintro e w1 ⟨N,HN,rfl,hu1⟩
 obtain ⟨RV,hRV⟩:∃ RV,RV=ratV N:=⟨_,rfl⟩
 have HT:=Lib.hid (pk6 N n w1 HN.out hn)
 rw [← hRV] at HT ⊢
 clear hRV
 go_wp2_with fail
 refine HT.out.mono ?_
 rintro e w2 ⟨y,HY,hy,rfl,hu2⟩
 go_wp2_with fail
 go_ret
 exact ⟨y,HY,hy,rfl,hu1.trans hu2⟩
def pbB (ws:List Nat) (k j:Nat):List Nat:=((List.range k).flatMap fun i=>List.replicate (ws.getD i 0) (gP (secN i))) ++ List.replicate j (gP (secN k))
theorem pi8 (ws:List Nat) (k j:Nat):pbB ws k (j+1)=pbB ws k j ++ [gP (secN k)]:=by
 unfold pbB
 rw [List.replicate_succ',List.append_assoc]
theorem pfk {ws:List Nat} {k x:Nat} (h:ws[k]? =some x):pbB ws (k+1) 0=pbB ws k x:=by
 have e:ws.getD k 0=x:=by rw [List.getD_eq_getElem?_getD,h];rfl
 unfold pbB
 rw [List.range_succ,List.flatMap_append,List.replicate_zero,List.append_nil,← e]
 simp
theorem pd4:∀ (ws:List Nat) (k j:Nat),k≤ws.length→(pbB ws k j).length=(ws.take k).sum+j
 | ws,0,j,_=>by simp [pbB]
 | ws,k+1,j,h=>by
  obtain ⟨x,hx⟩:∃ x,ws[k]? =some x:=⟨_,List.getElem?_eq_getElem (by omega)⟩
  have e:pbB ws (k+1) j=pbB ws (k+1) 0 ++ List.replicate j (gP (secN (k+1))):=by simp [pbB]
  rw [e,pfk hx,List.length_append,pd4 ws k x (by omega),pbc hx]
  simp
theorem pf9 (ws:List Nat):pbB ws ws.length 0=pbv ws:=by simp [pbB,pbv]
theorem pa2 (wr:World) (v:Value) (l:List Nat) (k x:Nat) (hk:l.length=k) (hown:wr.ownsRow 0 3 1 v k (pah l)) (hb:k≤1000000) :
 ∃ v' w',(Builtin.append_ #[22,22] 22 #[v,.slice (some ⟨wr.heap.size,0,none⟩) 1 1]).run Tryz.prog (wr.alloc (.cells #[.int .i64 (x:Int)] 3))=.ok v' w'∧w'.ownsRow 0 3 1 v' (k+1) (pah (l ++ [x]))∧Upd (foot v) (foot v') wr w':=by
 obtain ⟨v',w',h1,h2,h3⟩:=paV wr v k (pah l) (x:Int) hown (by omega)
 exact ⟨v',w',h1,by rw [paO];exact h2,h3⟩
set_option maxHeartbeats 1000000 in
theorem pk7 (v:Value) (ws:List Nat) (w:World) (hw:WsOk ws) (h:pb7 w v ws) :
 Calls Tryz.prog 109 #[v] w (fun e w'=>∃ u:Value,Hid (w'.ownsRow 0 3 1 u (pbv ws).length (pah (pbv ws)))∧e=.returned u∧Hid (Upd [] (foot u) w w')):=by
 obtain ⟨ao,cap,rfl,h1,h2,h3⟩:=h
 have HM:=Lib.hid h3
 have HW:=Lib.hid hw
 have HT:=Lib.hid (pbE ws)
 have hs:=hw.sum.2
 have HL:=Lib.hid (pd4 ws)
 obtain ⟨n,hn⟩:∃ n,n=ws.length:=⟨_,rfl⟩
 have HN:=Lib.hid hn
 have HS:=Lib.hid hs
 have hn4:n≤4:=by rw [hn];exact hw.2.1
 rw [← hn] at h1 ⊢
 clear hn h3 hw hs
 go_enter Tryz.func109,Tryz.ntmps109
 go_wp2_with fail
 go_loopw [3,4,5] (fun u i _ wr=>∃ k:Nat,i=.int .i64 (k:Int)∧k≤n∧Hid (wr.ownsRow 0 3 1 u (ws.take k).sum (pah (pbB ws k 0)))∧Hid (Upd [] (foot u) w wr)) (fun _ i _ _=>n - (intOf i).toNat)
 case atStart=>exact ⟨0,rfl,Nat.zero_le _,(by show World.ownsRow _ _ _ _ _ _ _;exact World.ownsRow_nil _ _ _ _),Upd.refl _ _⟩
 case round =>
  obtain ⟨k,rfl,hk,HR,HU⟩:=hrel
  by_cases hlt:k<n
  · obtain ⟨x,hx⟩:∃ x,ws[k]? =some x:=⟨_,List.getElem?_eq_getElem (by rw [← HN.out];exact hlt)⟩
    have hx1:=HW.out.2.2 x (List.mem_of_getElem? hx)
    have HX:=Lib.hid hx
    have i0:(0:Int)≤(k:Int):=by omega
    have i1:(k:Int)<(n:Int):=by omega
    clear hx
    go_wp2_with fail
    go_loopw [3,5] (fun u i wr=>∃ j:Nat,i=.int .i64 (j:Int)∧j≤x∧Hid (wr.ownsRow 0 3 1 u ((ws.take k).sum+j) (pah (pbB ws k j)))∧Hid (Upd [] (foot u) w wr)) (fun _ i _=>x - (intOf i).toNat)
    case atStart=>exact ⟨0,rfl,Nat.zero_le _,HR.out,HU.out⟩
    case round =>
     obtain ⟨j,rfl,hj,HR2,HU2⟩:=hrel
     have hup0:Upd [] [] w wr:=HU2.out.mono (fun _ h=>h) (fun _ h=>absurd h (by simp))
     obtain ⟨g,rfl,hg,c0,c1,c2⟩:=(HM.out.upd hup0) k _ (pbb HX.out)
     dsimp only [memC] at c0 c1 c2
     clear c0 hup0
     by_cases hjx:j<x
     · obtain ⟨p,hp⟩:∃ p,p=gP (secN k):=⟨_,rfl⟩
       rw [← hp] at c2
       have hlen:=HL.out k j (by rw [← HN.out];omega)
       have hsm:=HT.out k
       obtain ⟨u',w',hrun,hown',hup'⟩:=pa2 wr u3 (pbB ws k j) ((ws.take k).sum+j) p hlen HR2.out (by have:=HS.out;omega)
       have HRN:=Lib.hid hrun
       have HOW:Hid (w'.ownsRow 0 3 1 u' ((ws.take k).sum+(j+1)) (pah (pbB ws k (j+1)))):=by
        show World.ownsRow _ _ _ _ _ _ _
        rw [pi8,← hp]
        exact hown'
       have HUP:=Lib.hid (HU2.out.trans hup')
       have x1:(j:Int)<(x:Int):=by omega
       clear hlen hsm hrun hown' hup' hp HR2 HU2
       go_wp2_with (refine wpList_append_run _ rfl _ _ _ _ rfl _ _ u' w' rfl rfl HRN.out ?_)
       exact ⟨⟨j+1,by go_num,by omega,HOW.out,HUP.out⟩,by simp [intOf];omega⟩
     · obtain rfl:j=x:=by omega
       have HOW:Hid (wr.ownsRow 0 3 1 u3 (ws.take (k+1)).sum (pah (pbB ws (k+1) 0))):=by
        show World.ownsRow _ _ _ _ _ _ _
        rw [pbc HX.out,pfk HX.out]
        exact HR2.out
       clear HR2 HR HU
       go_wp2_with fail
       exact ⟨⟨k+1,by go_num,by omega,HOW.out,HU2.out⟩,by simp [intOf];omega⟩
  · obtain rfl:k=n:=by omega
    have hl:=HL.out k 0 (by rw [HN.out];exact Nat.le_refl _)
    have HOW:Hid (wr.ownsRow 0 3 1 u3 (pbv ws).length (pah (pbv ws))):=by
     show World.ownsRow _ _ _ _ _ _ _
     rw [← pf9,← HN.out,hl]
     exact HR.out
    clear HR hl
    go_wp2_with fail
    go_ret
    exact ⟨_,HOW,rfl,HU⟩
theorem pk8 (s:List UInt8) (k:Nat):pch s (k+1)=pch s k ++ [pc9 (ppD k s)]:=by simp [pch,List.range_succ]
set_option maxHeartbeats 1000000 in
theorem phP (seed:ByteArray) (need:Nat) (w:World) (hs:seed.size≤1000000) (hn:need≤1000) :
 Calls Tryz.prog 47 #[.string seed,.int .i64 (need:Int)] w (fun e w'=>∃ u:Value,Hid (w'.ownsRow 0 3 1 u need (pah (pch (bs seed) need)))∧e=.returned u∧Hid (Upd [] (foot u) w w')):=by
 have h12:(ByteArray.mk #[99,111,101,102,102,105,99,105,101,110,116,32]).size=12:=rfl
 have h4:(ByteArray.mk #[32,111,102,32]).size=4:=rfl
 go_enter Tryz.func47,Tryz.ntmps47
 go_wp2_with fail
 go_loopw [5,6] (fun u i wr=>∃ k:Nat,i=.int .i64 (k:Int)∧k≤need∧Hid (wr.ownsRow 0 3 1 u k (pah (pch (bs seed) k)))∧Hid (Upd [] (foot u) w wr)) (fun _ i _=>need - (intOf i).toNat)
 case atStart=>exact ⟨0,rfl,Nat.zero_le _,(by show World.ownsRow _ _ _ _ _ _ _;exact World.ownsRow_nil _ _ _ _),Upd.refl _ _⟩
 case round =>
  obtain ⟨k,rfl,hk,HR,HU⟩:=hrel
  by_cases hlt:k<need
  · have i1:(k:Int)<(need:Int):=by omega
    have hk20:(Lib.itoa (k:Int)).length≤20:=itoa_len (k:Int) (by unfold pab;omega)
    go_wp2_with fail
    refine (pb0 k wr (by omega)).mono ?_
    rintro e w1 ⟨y,HY,hy,rfl,hu1⟩
    have hR1:=pai HR.out (fun j hj=>hu1.block j (paf HR.out j hj) (by simp))
    have HR1:=Lib.hid hR1
    have HU1:=Lib.hid (HU.out.trans (hu1.mono (fun _ h=>absurd h (by simp)) (fun _ h=>.inr h)))
    clear hR1 hu1 HR HU
    go_wp2_with fail
    refine (pbD _ w1 (by simp [ByteArray.size_append];omega)).mono ?_
    rintro e w2 ⟨c,HC,hc,rfl,hu2⟩
    obtain ⟨u',w',hrun,hown',hup'⟩:=pa2 w2 u5 (pch (bs seed) k) k c (pbY _ _) (pai HR1.out (fun j hj=>hu2.block j (paf HR1.out j hj) (by simp))) (by omega)
    have HRN:=Lib.hid hrun
    have HOW:Hid (w'.ownsRow 0 3 1 u' (k+1) (pah (pch (bs seed) (k+1)))):=by
     show World.ownsRow _ _ _ _ _ _ _
     have e:pc9 (ppD k (bs seed))=c:=by
      rw [HC.out]
      simp only [pae,HY.out]
      rfl
     rw [pk8,e]
     exact hown'
    have HUP:=Lib.hid ((HU1.out.trans (hu2.mono (fun _ h=>absurd h (by simp)) (fun _ h=>.inr h))).trans hup')
    clear hrun hown' hup' hu2 HR1 HU1 HC HY hy hk20
    go_wp2_with (refine wpList_append_run _ rfl _ _ _ _ rfl _ _ u' w' rfl rfl HRN.out ?_)
    exact ⟨⟨k+1,by go_num,by omega,HOW.out,HUP.out⟩,by simp [intOf];omega⟩
  · obtain rfl:k=need:=by omega
    go_wp2_with fail
    go_ret
    exact ⟨_,HR,rfl,HU⟩
end Go.Proofs.YtheobkejohifaaaGreatDoor
