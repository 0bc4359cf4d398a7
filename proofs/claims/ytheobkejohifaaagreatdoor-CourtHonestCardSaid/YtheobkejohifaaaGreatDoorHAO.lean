/- Receipts and hashes compared and what follows. -/
import Derived.Test.YtheobkejohifaaaGreatDoorHAL
import Derived.ChangeKeysEq
import Derived.Test.YtheobkejohifaaaGreatDoorHAM
import Derived.Test.YtheobkejohifaaaGreatDoorHAN
import Derived.Deep.Upon
import Derived.Test.YtheobkejohifaaaGreatDoorHAA
import Derived.Test.YtheobkejohifaaaGreatDoorHAK
import Derived.Test.YtheobkejohifaaaGreatDoorHAE
import Derived.Test.YtheobkejohifaaaGreatDoorHAG
namespace Go.Proofs.YtheobkejohifaaaGreatDoor
open Go.RowKit
set_option maxRecDepth 100000

theorem wpList_load_atW {P:Program} {ops:Array Oper} {rest:List Oper} {o:Oper} {a:Act} {w:World} {Q:Exit→Act→World→Prop} (hw:Region.wanted o (yielded ops a.tmps)=true) (ty:TypeId) (x:Operand) (ho:o.op=.load ty x)
 (b of:Nat) (hx:a.eval x=.pointer (some ⟨b,of,none⟩)) (C:Array Value) (hr:(Instr.loadAt ty (.pointer (some ⟨b,of,none⟩))).run P w=.ok (.agg C) w)
 (h:wpList P ops Q rest (a.put o.dst (.agg C)) w):wpList P ops Q (o :: rest) a w:=by
 refine wpList_step fun K hK=>?_
 rw [if_pos hw]
 unfold Oper.wp execOp
 simp only [ho,hx,Sem.run_bind,hr,Result.andThen_ok]
 exact hK _ _ h
theorem pdo {P:Program} {o:Oper} {a:Act} {w:World} {K:Act→World→Prop} {Q:Exit→Act→World→Prop} (t:TypeId) (len:Nat) (parts:Array (Nat × Operand)) (ho:o.op=.buildSlice t len parts)
 (v:Value) (w':World) (hr:(Instr.buildSlice t len (parts.map fun (i,x)=>(i,a.eval x))).run P w=.ok v w') (h:K (a.put o.dst v) w'):o.wp P a w K Q:=by
 unfold Oper.wp execOp
 simp only [ho,Sem.run_bind,hr,Result.andThen_ok]
 exact h
theorem pau {P:Program} {ops:Array Oper} {S:World→Prop} {op:Oper} {a:Act} (hw:Region.wanted op (yielded ops a.tmps)=true) (ty:TypeId) (x:Operand) (ho:op.op=.load ty x) (v:Value) (hx:a.eval x=v) (C:Array Value)
 (hS:∀ w,S w→(Instr.loadAt ty v).run P w=.ok (.agg C) w):YieldsIf P ops S op (.agg C) a :=
 .inl ⟨hw,fun w hw'=>by
  unfold execOp
  simp only [ho,hx,Sem.run_bind,Sem.run_pure,Result.andThen_ok,hS w hw']⟩
theorem paC (wB:World) (T:TypeId) (Z C:Array Value):∃ wC:World,Hid ((wB.alloc (.cells Z T)).heap[wB.heap.size]? =some (.cells Z T (0,0)))∧Hid ((wB.alloc (.cells Z T)).setRow wB.heap.size C=wC)∧Hid (wC.heap[wB.heap.size]? =some (.cells C T (0,0)))∧Upd [] [] wB wC:=by
 have h:=heap_alloc_new wB (.cells Z T)
 exact ⟨_,h,rfl,setRow_heap _ _ _ _ _ _ h,((Upd.refl _ _).alloc _).setRowNew (Nat.le_refl _) _⟩
theorem paw (W:World) (ob:Obj):∃ (g:Nat) (W':World),g=W.heap.size∧W'=W.alloc ob∧Hid (W'.heap[g]? =some ob)∧Upd [] [] W W':=⟨_,_,rfl,rfl,heap_alloc_new _ _,(Upd.refl _ _).alloc _⟩
theorem paF (W:World) (ob:Obj):∃ (g:Nat) (W':World),g=W.heap.size∧W'=(W.alloc ob).drew∧Hid (W'.heap[g]? =some ob)∧Upd [] [] W W':=⟨_,_,rfl,rfl,heap_alloc_new _ _,((Upd.refl _ _).alloc _).drew⟩
theorem wpList_buildRun {P:Program} {ops:Array Oper} {rest:List Oper} {o:Oper} {a:Act} {w:World} {Q:Exit→Act→World→Prop} (hg:o.guard=none) (t:TypeId) (len:Nat) (parts:Array (Nat × Operand)) (ho:o.op=.buildSlice t len parts)
 (v:Value) (w':World) (hr:(Instr.buildSlice t len (parts.map fun (i,x)=>(i,a.eval x))).run P w=.ok v w')
 (h:wpList P ops Q rest (a.put o.dst v) w'):wpList P ops Q (o :: rest) a w :=
 wpList_plain hg fun _ hK=>by
  unfold Oper.wp execOp
  simp only [ho,Sem.run_bind,hr,Result.andThen_ok]
  exact hK _ _ h
theorem pqO (a b:UInt8):bits .xor .u8 (a.toNat:Int) (b.toNat:Int)=((a ^^^ b).toNat:Int):=by
 have h:∀ c:UInt8,BitVec.ofInt 8 (c.toNat:Int)=c.toBitVec:=by
  intro c
  apply BitVec.eq_of_toNat_eq
  rw [BitVec.toNat_ofInt]
  have:=c.toNat_lt
  show ((c.toNat:Int) % 256).toNat=c.toNat
  omega
 show IntKind.u8.wrap ((BitVec.ofInt 8 (a.toNat:Int) ^^^ BitVec.ofInt 8 (b.toNat:Int)).toNat:Int)=_
 rw [h,h]
 have e:(a.toBitVec ^^^ b.toBitVec).toNat=(a ^^^ b).toNat:=rfl
 rw [e,IntKind.wrap_u8]
 have:=(a ^^^ b).toNat_lt
 omega
theorem pjb (wr:World) (v:Value) (k:Nat) (l:List UInt8) (b:UInt8) (hown:wr.ownsRow 0 5 1 v k (byteVals l)) (hk:k≤1000000) :
 ∃ v' w',(Builtin.append_ #[124,124] 124 #[v,.slice (some ⟨wr.heap.size,0,none⟩) 1 1]).run Tryz.prog (wr.alloc (.cells #[.int .u8 (b.toNat:Int)] 5))=.ok v' w'∧w'.ownsRow 0 5 1 v' (k+1) (byteVals (l ++ [b]))∧Upd (foot v) (foot v') wr w':=by
 obtain ⟨iu,u1,u2,u3,u4⟩:=pdE
 have h:=pcj (P:=Tryz.prog) 124 5 iu (.int .u8 0) 1 1 Tryz.underlying124 u1 u2 u3 u4 rfl (by omega) (by omega) wr v k (byteVals l) (byteVals [b]) rfl (paG [b]) hown hk
 rw [pa8]
 exact h
theorem pmT {y key idx k:Nat} (hk:k<8) (a h:UInt8) (ha:a=UInt8.ofNat (y / 2 ^ (8 * (7 - k)))) (hh:(padB key idx)[k]? =some h):(boxL y key idx).take (k+1)=(boxL y key idx).take k ++ [a ^^^ h]:=by
 have hl:=pgG y key idx
 have hp:=peH key idx
 rw [List.take_succ_eq_append_getElem (by omega)]
 congr 1
 have h1:(boxL y key idx)[k]? =some (a ^^^ h):=by
  unfold boxL
  rw [List.getElem?_append_left (by simp [pas,hp];omega),List.getElem?_zipWith]
  have e1:(len8 y)[k]? =some a:=by
   rw [ha]
   simp [len8,hk]
  have e2:((padB key idx).take 8)[k]? =some h:=by rw [List.getElem?_take_of_lt hk];exact hh
  rw [e1,e2]
 rw [(List.getElem?_eq_some_iff.1 h1).2]
theorem Upd.past2 {a b c:World} {S S':List Nat} (u:Upd [] [] a b) (v:Upd S S' b c) (hS:∀ k,k∈S→a.heap.size≤k):Upd [] [] a c:=u.past v hS
theorem pmU (y key idx:Nat):(boxL y key idx).take 8 ++ ((padB key idx).drop 8).take 8=boxL y key idx:=by
 have hp:=peH key idx
 unfold boxL
 rw [List.take_left' (by simp [pas,hp])]
set_option maxHeartbeats 1000000 in
theorem pdL (y key idx:Nat) (w:World) (_hy:y<9223372036854775808) (hk:key<9223372036854775808) (hi:idx<9223372036854775808) :
 Calls Tryz.prog 159 #[.int .i64 (y:Int),.int .i64 (key:Int),.int .i64 (idx:Int)] w (MkS (boxL y key idx) w):=by
 have HP:=Lib.hid (pox key idx w hk hi)
 obtain ⟨H,hH⟩:∃ H,H=padB key idx:=⟨_,rfl⟩
 rw [← hH] at HP
 have HL:Hid (H.length=32):=by show _=_;rw [hH,peH]
 have HH:=Lib.hid hH
 clear hH hk hi
 go_enter Tryz.func159,Tryz.ntmps159
 go_wp2_with fail
 refine HP.out.mono ?_
 rintro e w1 ⟨rfl,hu1⟩
 obtain ⟨gH,hgH⟩:∃ g,w1.heap.size=g:=⟨_,rfl⟩
 obtain ⟨w2,Z2,W2,R2,hq2⟩:=paC w1 51 (byteVals zero32).toArray (byteVals H).toArray
 rw [hgH] at Z2 W2 R2
 have HIN:=Lib.hid (hashInfo HL.out)
 have HZL:Hid ((byteVals zero32).toArray.size=(byteVals H).toArray.size):=by show _=_;simp [byteVals,HL.out,zero32]
 have HON:=Lib.hid (hashOne H)
 have U2:=Lib.hid (hu1.trans hq2)
 have HG:Hid (w.heap.size≤gH∧gH<w2.heap.size):=⟨by rw [← hgH];exact hu1.size,(Array.getElem?_eq_some_iff.1 R2.out).1⟩
 clear hu1 hq2
 go_wp2_with (first | (refine wpList_store_rowAs rfl 51 _ _ rfl gH (byteVals H).toArray rfl rfl _ _ Z2.out HIN.out HZL.out HON.out w2 W2.out ?_))
 clear Z2 W2 HIN HZL HON HP
 go_loopw [8,9] (fun t i wr=>∃ k:Nat,i=.int .i64 (k:Int)∧k≤8∧Hid (wr.ownsRow 0 5 1 t k (byteVals ((boxL y key idx).take k)))∧Hid (wr.heap[gH]? =some (.cells (byteVals H).toArray 51 (0,0)))∧Hid (∀ x,x∈foot t→gH<x)∧Hid (Upd [] (foot t) w2 wr)) (fun _ i _=>8 - (intOf i).toNat)
 case atStart=>exact ⟨0,rfl,by omega,(by show World.ownsRow _ _ _ _ _ _ _;exact World.ownsRow_nil _ _ _ _),R2.out,fun x h=>(by cases h),Upd.refl _ _⟩
 case round =>
  obtain ⟨k,rfl,hk,HR,HB,HF,HU⟩:=hrel
  by_cases hlt:k<8
  · obtain ⟨h,hh⟩:∃ h,H[k]? =some h:=⟨_,List.getElem?_eq_getElem (by have:=HL.out;omega)⟩
    obtain ⟨a,ha⟩:∃ a,a=UInt8.ofNat (y / 2 ^ (8 * (7 - k))):=⟨_,rfl⟩
    have hstep:=pmT (y:=y) (key:=key) (idx:=idx) hlt a h ha (by rw [← HH.out];exact hh)
    have hc:wr.cell? ⟨gH,k,none⟩=some (.int .u8 (h.toNat:Int)):=(cell_of_row _ gH k _ _ _ HB.out).trans (by simp [byteVals,hh,pbt])
    have HKc:=Lib.hid hc
    have hbl:gH<wr.heap.size:=World.block_lt_of_cell? _ _ hc
    have HK:Hid (∀ W,Upd [] [] wr W→W.cell? ⟨gH,k,none⟩=some (.int .u8 (h.toNat:Int))):=fun W u=>(u.cell (p:=⟨gH,k,none⟩) hbl (by simp)).trans HKc.out
    obtain ⟨k8,hk8⟩:∃ k8,k8=8 * k:=⟨_,rfl⟩
    obtain ⟨m8,hm8⟩:∃ m8,m8=56 - 8 * k:=⟨_,rfl⟩
    have e1:IntKind.i64.wrap (8 * (k:Int))=(k8:Int):=by rw [pap (by omega) (by omega)];omega
    have e2:IntKind.i64.wrap (56 - (k8:Int))=(m8:Int):=by rw [pap (by omega) (by omega)];omega
    have e3:IntKind.u8.wrap ((y:Int) / 2 ^ m8)=(a.toNat:Int):=by
     have:(UInt8.ofNat (y / 2 ^ (8 * (7 - k)))).toNat=y / 2 ^ (8 * (7 - k)) % 256:=by simp
     rw [IntKind.wrap_u8,ha,this,show m8=8 * (7 - k) by omega]
     simp
    have e4:=pqO a h
    have m0:m8<64:=by omega
    obtain ⟨t',w',hrun,hown',hup'⟩:=pjb wr.drew u8 k ((boxL y key idx).take k) (a ^^^ h) (pai HR.out (fun _ _=>rfl)) (by omega)
    rw [← hstep] at hown'
    have HRN:=Lib.hid hrun
    have HOW:=Lib.hid hown'
    have HUP:=Lib.hid (HU.out.drew.trans hup')
    have hoff:∀ x,x∈foot t'→gH<x:=fun x hx=>by
     rcases hup'.new x hx with q | q
     · exact HF.out x q
     · exact Nat.lt_of_lt_of_le hbl q
    have hrow:w'.heap[gH]? =some (.cells (byteVals H).toArray 51 (0,0)):=(hup'.block gH hbl (fun q=>Nat.lt_irrefl _ (HF.out gH q))).trans HB.out
    have hkw:w'.cell? ⟨gH,k,none⟩=some (.int .u8 (h.toNat:Int)):=(cell_of_row _ gH k _ _ _ hrow).trans (by simp [byteVals,hh,pbt])
    have HKW:=Lib.hid hkw
    have HOFF:=Lib.hid hoff
    have HROW:=Lib.hid hrow
    have ud0:Upd [] [] wr wr.drew:=(Upd.refl _ _).drew
    have i0:(0:Int)≤(k:Int):=by omega
    have i1:(k:Int)<32:=by omega
    clear hkw hstep hc hrun hown' hup' hoff hrow hh ha hk8 hm8 hbl HKc
    go_upto_region 6 with (fail)
    refine wp_region_noPanic ?_
    refine wp_region_held_drew (S:=fun wp=>wp.cell? ⟨gH,k,none⟩=some (.int .u8 (h.toNat:Int))) (by kernel_rfl) ?_ (fun hHeld=>?_)
    · exact HK.out _ ud0
    refine tkY 0 hHeld ?_
    refine tkY 1 hHeld ?_
    refine tkY 2 hHeld ?_
    refine tkY 3 hHeld ?_
    refine tkY 4 hHeld ?_
    refine tkY 5 hHeld ?_
    refine tkY 6 hHeld ?_
    refine tkY 7 hHeld ?_
    refine tkY 8 hHeld ?_
    refine tkY 9 hHeld ?_
    refine tkY 10 hHeld ?_
    refine tk1 11 fun K hK=>?_
    go_simp
    refine tkK hK (HK.out _ (ud0.alloc _)) fun hHeld=>?_
    clear hK K
    refine tk1 12 fun K hK=>?_
    refine pav _ rfl _ _ _ _ rfl u8 (.slice (some ⟨wr.drew.heap.size,0,none⟩) 1 1) t' w' rfl rfl HRN.out ?_
    refine tkK hK (HKW.out) fun hHeld=>?_
    clear hK K
    refine tkY 13 hHeld ?_
    refine wpAnyH_done (by kernel_rfl) ?_ _
    refine NoPanic.normal ?_
    go_wp2_with fail
    exact ⟨⟨k+1,by go_num,by omega,HOW.out,HROW.out,HOFF.out,HUP.out⟩,(by first | (simp [intOf];done) | (simp [intOf];omega))⟩
  · obtain rfl:k=8:=by omega
    obtain ⟨iu,q1,q2,q3,q4⟩:=pdE
    have hcells:∀ (j:Nat) (z:Value),(byteVals ((H.drop 8).take 8))[j]? =some z→wr.cell? ((⟨gH,8,none⟩:Addr).add j)=some z:=by
     intro j z hz
     have hj:j<8:=by
      have:=(List.getElem?_eq_some_iff.1 hz).1
      simp [byteVals] at this
      omega
     have e':(⟨gH,8,none⟩:Addr).add j=⟨gH,8+j,none⟩:=by simp [Addr.add]
     rw [e',cell_of_row _ gH (8+j) _ _ _ HB.out]
     simp only [byteVals,List.map_take,List.map_drop] at hz
     rw [List.getElem?_take_of_lt hj,List.getElem?_drop] at hz
     simp only [byteVals,List.getElem?_toArray]
     exact hz
    obtain ⟨t',w',hrun,hown',hup'⟩:=paY (P:=Tryz.prog) wr 124 124 5 iu (.int .u8 0) 1 1 Tryz.underlying124 q1 q2 q3 q4 rfl (by omega) u8 8 _ HR.out ⟨gH,8,none⟩ 8 24 (byteVals ((H.drop 8).take 8)) (by simp [byteVals,HL.out]) hcells (paG _) (by omega) (by simp only [maxLen];omega)
    have hcat:byteVals ((boxL y key idx).take 8) ++ byteVals ((H.drop 8).take 8)=byteVals (boxL y key idx):=by
     rw [← pa8,HH.out,pmU]
    rw [hcat] at hown'
    have hcv:=pdx (P:=Tryz.prog) w' 124 9 5 Tryz.underlying124 Tryz.underlying5 Tryz.underlying9 t' (boxL y key idx) (by rw [pgG];exact hown')
    have HCV:=Lib.hid hcv
    have HRN:=Lib.hid hrun
    have HUP:=Lib.hid ((U2.out.trans (HU.out.mono (fun _ h=>h) (fun _ h=>absurd h (by simp)))).past2 hup' (fun x hx=>Nat.le_trans HG.out.1 (Nat.le_of_lt (HF.out x hx))))
    clear hcells hrun hown' hup' hcat hcv q1 q2 q3 q4 HR HB
    go_wp2_with (refine wpList_append_run _ rfl _ _ _ _ rfl _ _ t' w' rfl rfl HRN.out ?_)
    rw [HCV.out]
    go_wp2_with fail
    go_ret
    exact ⟨⟨(boxL y key idx).toArray⟩,rfl,Nat.le_refl _,rfl,HUP.out⟩
theorem pmV (a m:Int) (w:World) (_ha:-9223372036854775808≤a∧a≤9223372036854775807) (hm:1≤m∧m≤9223372036854775807) :
 Calls Tryz.prog 157 #[.int .i64 a,.int .i64 m] w (RetZ .i64 m (a % m) w):=by
 have e1:=Int.tmod_eq_emod (a:=a) (b:=m)
 have e3:=Int.emod_nonneg a (show m≠0 by omega)
 have e4:=Int.emod_lt_of_pos a (show 0<m by omega)
 have H1:=Lib.hid e1
 clear e1
 go_enter Tryz.func157,Tryz.ntmps157
 go_wp2_with fail
 · go_ret
   refine paP (by omega) ?_
   have h:=H1.out
   simp only [wrap64]
   split at h <;> omega
 · go_ret
   refine paP (by omega) ?_
   have h:=H1.out
   split at h <;> omega
def pjc (w:World) (g:Nat) (v:Value) (k:Nat):Prop:=w.heap[g]? =some (.cells #[v,.int .i64 (k:Int)] 151 (0,0))
def prw (l:List Int) (g:Nat) (v:Value) (k n:Nat) (w:World) (e:Ending) (w':World):Prop:=∃ r k':Nat,Hid (r=nxtN l k n)∧r<n∧Hid (k'=min (k+1) l.length)∧e=.returned (.int .i64 (r:Int))∧Hid (pjc w' g v k')∧Hid (Upd [g] [g] w w')
set_option maxHeartbeats 1000000 in
theorem pmW (l:List Int) (v:Value) (g k n:Nat) (wo w:World) (hn:1≤n∧n≤1000) (hvo:RdO wo v l) (huo:Upd [] [] wo w) (hgo:wo.heap.size≤g) (hl:l.length≤9223372036854775807) (hi:∀ x∈l,pab x) (hk:k≤l.length) (h:pjc w g v k) :
 Calls Tryz.prog 106 #[.pointer (some ⟨g,0,none⟩),.int .i64 (n:Int)] w (prw l g v k n w):=by
 obtain ⟨ao,cap,rfl,h1,h2,hget0⟩:=hvo.form
 have hget:∀ (k:Nat) x,l[k]? =some x→∃ b o,ao=some ⟨b,o,none⟩∧b<wo.heap.size∧w.cell? ⟨b,o+k,none⟩=some (.int .i64 x):=fun k x hk=>by
  obtain ⟨b,o,e,hb,hc⟩:=hget0 k x hk
  exact ⟨b,o,e,hb,(huo.cell (p:=⟨b,o+k,none⟩) hb (by simp)).trans hc⟩
 have hsz:=huo.size
 clear hget0 huo hvo
 have HI:=Lib.hid hi
 have H:=Lib.hid h
 have hgl:g<w.heap.size:=pag h
 obtain ⟨m,hm⟩:∃ m,m=l.length:=⟨_,rfl⟩
 have HM:=Lib.hid hm
 rw [← hm] at hl hk h1
 have hm2:Value.slice ao l.length cap=.slice ao m cap:=by rw [hm]
 rw [hm2] at H ⊢
 have q0:w.cell? ⟨g,0,none⟩=some (.slice ao m cap):=cell_of_row _ g 0 _ _ _ H.out
 have q1:w.cell? ⟨g,1,none⟩=some (.int .i64 (k:Int)):=cell_of_row _ g 1 _ _ _ H.out
 by_cases hlt:k<m
 · obtain ⟨x,hx⟩:∃ x,l[k]? =some x:=⟨_,List.getElem?_eq_getElem (by omega)⟩
   obtain ⟨b,o,rfl,hbl,hcell⟩:=hget k x hx
   have hxi:=hi x (List.mem_of_getElem? hx)
   have hbg:b≠g:=by omega
   have hbl:b<w.heap.size:=by omega
   have HNX:Hid (((nxtN l k n:Nat):Int)=x % (n:Int)):=pl1 hx (by omega)
   have HNL:Hid (nxtN l k n<n):=pgH l k n (by omega)
   have d1:¬ (m:Int)≤(k:Int):=by omega
   have HCL:=Lib.hid hcell
   obtain ⟨k9,hk9⟩:∃ k9,k9=k+1:=⟨_,rfl⟩
   have e1:IntKind.i64.wrap ((k:Int)+1)=(k9:Int):=by rw [pap (by omega) (by omega)];omega
   have e2:IntKind.i64.wrap ((k9:Int) - 1)=(k:Int):=by rw [pap (by omega) (by omega)];omega
   have HK9:Hid (k9=min (k+1) l.length):=by show _=_;rw [← HM.out];omega
   have HBL:=Lib.hid (And.intro hbl (And.intro hbg hgl))
   have HXI:=Lib.hid hxi
   have i0:(0:Int)≤(k:Int):=by omega
   have i1:(k:Int)<(m:Int):=by omega
   clear hget hi h hm hm2 hx hcell hk9 hbl hbg hgl hxi hgo hsz
   go_enter Tryz.func106,Tryz.ntmps106
   go_upto_region 1 with (fail)
   go_quiet (fail)
   have R0:=Lib.hid (show (w.drewN nq).heap[g]? =some (.cells #[.slice (some ⟨b,o,none⟩) m cap,.int .i64 (k:Int)] 151 (0,0)) from H.out)
   have C0:=Lib.hid (show (w.drewN nq).cell? ⟨b,o+k,none⟩=some (.int .i64 x) from HCL.out)
   have U0:=Lib.hid (((Upd.refl [g] w).drewN nq))
   clear q0 q1 H HCL
   generalize w.drewN nq=w1 at *
   have q0:w1.cell? ⟨g,0,none⟩=some (.slice (some ⟨b,o,none⟩) m cap):=cell_of_row _ g 0 _ _ _ R0.out
   have q1:w1.cell? ⟨g,1,none⟩=some (.int .i64 (k:Int)):=cell_of_row _ g 1 _ _ _ R0.out
   have f1:w1.frozen? ⟨g,1,none⟩=false:=frozen_of_row _ g 1 _ _ R0.out
   obtain ⟨w2,hw2⟩:∃ W,w1.setCell ⟨g,1,none⟩ (.int .i64 (k9:Int))=W:=⟨_,rfl⟩
   have R2:=Lib.hid ((congrArg (fun W:World=>W.heap[g]?) hw2.symm).trans (heap_setCell_same w1 g 1 _ _ (.int .i64 (k9:Int)) R0.out))
   have R2':Hid (pjc w2 g (.slice (some ⟨b,o,none⟩) m cap) k9):=R2.out
   have U2:=Lib.hid (show Upd [g] [g] w w2 by rw [← hw2];exact U0.out.setCell (p:=⟨g,1,none⟩) (by simp) _)
   have C2:Hid (w2.cell? ⟨b,o+k,none⟩=some (.int .i64 x)):=by
    show _=_
    rw [← hw2]
    exact (World.cell?_setCell_other _ _ _ _ (fun e=>HBL.out.2.1 (Addr.mk.inj e).1.symm)).trans C0.out
   have HK:Hid (∀ W,Upd [] [] w2 W→W.cell? ⟨g,0,none⟩=some (.slice (some ⟨b,o,none⟩) m cap)∧W.cell? ⟨g,1,none⟩=some (.int .i64 (k9:Int))∧W.cell? ⟨b,o+k,none⟩=some (.int .i64 x)):=by
    intro W u
    have q:=paa R2'.out u
    exact ⟨cell_of_row _ g 0 _ _ _ q,cell_of_row _ g 1 _ _ _ q,(u.cell (p:=⟨b,o+k,none⟩) (World.block_lt_of_cell? _ _ C2.out) (by simp)).trans C2.out⟩
   have ud0:Upd [] [] w2 w2.drew:=(Upd.refl _ _).drew
   clear R2 R0 C0 U0
   go_upto_region 4 with (fail)
   refine wp_region_noPanic ?_
   refine wp_region_held_drew (S:=fun wp=>wp.cell? ⟨g,0,none⟩=some (.slice (some ⟨b,o,none⟩) m cap)∧wp.cell? ⟨g,1,none⟩=some (.int .i64 (k9:Int))∧wp.cell? ⟨b,o+k,none⟩=some (.int .i64 x)) (by kernel_rfl) ?_ (fun hHeld=>?_)
   · exact HK.out _ ud0
   refine tkY 0 hHeld ?_
   refine tkY 1 hHeld ?_
   refine tkY 2 hHeld ?_
   refine tkY 3 hHeld ?_
   refine tkY 4 hHeld ?_
   refine tkY 5 hHeld ?_
   refine tkY 6 hHeld ?_
   refine tkY 7 hHeld ?_
   refine tkY 8 hHeld ?_
   refine tkY 9 hHeld ?_
   refine tkY 10 hHeld ?_
   refine tkY 11 hHeld ?_
   refine tk1 12 fun K hK=>?_
   go_simp;refine (pmV x (n:Int) _ HXI.out (by omega)).mono ?_;rintro e wv1 ⟨r,HR,hr0,hr1,rfl,rfl⟩;go_wp2_with fail
   refine tkK hK (HK.out _ ud0) fun hHeld=>?_
   clear hK K
   refine tkY 13 hHeld ?_
   refine wpAnyH_done (by kernel_rfl) ?_ _
   refine NoPanic.normal ?_
   go_wp2_with fail
   go_ret
   refine ⟨nxtN l k n,k9,rfl,HNL.out,HK9,?_,R2'.out,U2.out.drew⟩
   rw [HNX.out,← HR.out]
   rfl
 · obtain rfl:k=m:=by omega
   have d1:(k:Int)≤(k:Int):=by omega
   have HNX:Hid (nxtN l k n=0):=pe6 (by omega)
   have HK9:Hid (k=min (k+1) l.length):=by show _=_;rw [← HM.out];omega
   have hn0:0<n:=by omega
   clear hget hi h hm hm2 HI hgo hsz
   go_enter Tryz.func106,Tryz.ntmps106
   go_upto_region 1 with (fail)
   go_quiet (fail)
   go_wp2_with fail
   go_ret
   exact ⟨0,k,HNX.out.symm,hn0,HK9,rfl,H.out,(Upd.refl [g] w).drewN nq⟩
theorem mbI:∃ i,Tryz.prog.info? 64=some i∧i.zero=some (.agg #[.int .i64 0,.int .i64 0,.int .i64 0])∧i.size=3∧i.bytes=24:=by
 have h:(Tryz.prog.info? 64).map (fun i=>(i.zero,i.size,i.bytes))=some (some (.agg #[.int .i64 0,.int .i64 0,.int .i64 0]),3,24):=by kernel_rfl
 obtain ⟨i,hi,he⟩:=Option.map_eq_some_iff.1 h
 simp only [Prod.mk.injEq] at he
 exact ⟨i,hi,he.1,he.2.1,he.2.2⟩
def pbN (l:List Mem):List Value:=l.flatMap fun m=>[.int .i64 m.id,.int .i64 m.weight,.int .i64 m.pub]
theorem pjd (l:List Mem) (m:Mem):pbN (l ++ [m])=pbN l ++ [.int .i64 m.id,.int .i64 m.weight,.int .i64 m.pub]:=by simp [pbN]
theorem pgc:∀ {l:List Mem} {k:Nat} {m:Mem},l[k]? =some m→(pbN l)[k * 3]? =some (.int .i64 m.id)∧(pbN l)[k * 3+1]? =some (.int .i64 m.weight)∧(pbN l)[k * 3+2]? =some (.int .i64 m.pub)
 | a :: l,0,m,h=>by
  simp at h
  subst h
  exact ⟨rfl,rfl,rfl⟩
 | a :: l,k+1,m,h=>by
  have:=pgc (l:=l) (k:=k) (m:=m) (by simpa using h)
  have e:(k+1) * 3=k * 3+3:=by omega
  rw [e]
  simpa [pbN] using this
theorem phQ (wr:World) (v:Value) (l:List Mem) (k:Nat) (id wt pub:Int) (_hk:l.length=k) (hown:wr.ownsRow 0 64 3 v k (pbN l)) (hb:k≤1000000) :
 ∃ v' w',(Builtin.append_ #[25,25] 25 #[v,.slice (some ⟨wr.heap.size,0,none⟩) 1 1]).run Tryz.prog (wr.alloc (.cells #[.int .i64 id,.int .i64 wt,.int .i64 pub] 64))=.ok v' w'∧w'.ownsRow 0 64 3 v' (k+1) (pbN (l ++ [⟨id,wt,pub⟩]))∧Upd (foot v) (foot v') wr w':=by
 obtain ⟨iu,u1,u2,u3,u4⟩:=mbI
 have h:=pcj (P:=Tryz.prog) 25 64 iu _ 3 24 Tryz.underlying25 u1 u2 u3 u4 rfl (by omega) (by omega) wr v k (pbN l) [.int .i64 id,.int .i64 wt,.int .i64 pub] rfl (by intro u hu;simp at hu;rcases hu with rfl | rfl | rfl <;> rfl) hown hb
 rw [pjd]
 exact h
theorem pd7 {w:World} {v:Value} {l:List Mem} {n:Nat} (hn:l.length=n) (h:w.ownsRow 0 64 3 v n (pbN l)):∃ ao cap,v=.slice ao n cap∧n≤cap∧cap≤maxLen∧pez w ao l:=by
 subst hn
 by_cases h0:l.length=0
 · obtain ⟨ao,cap,rfl,h1,h2⟩:=paj h
   exact ⟨ao,cap,rfl,h1,h2,fun k m hm=>by have:=(List.getElem?_eq_some_iff.1 hm).1;omega⟩
 · obtain ⟨g,cap,cur,rfl,hg,h1,h2,h3,h4⟩:=pcd h (by omega)
   refine ⟨_,cap,rfl,h1,h2,fun k m hm=>⟨g,rfl,pag hg,?_⟩⟩
   have hkl:=(List.getElem?_eq_some_iff.1 hm).1
   obtain ⟨a0,a1,a2⟩:=pgc hm
   rw [← h4] at a0 a1 a2
   rw [List.getElem?_take_of_lt (by omega)] at a0 a1 a2
   exact ⟨(cell_of_row w g (k * 3) _ _ _ hg).trans (by simpa using a0),(cell_of_row w g (k * 3+1) _ _ _ hg).trans (by simpa using a1),(cell_of_row w g (k * 3+2) _ _ _ hg).trans (by simpa using a2)⟩
def pb1 (l:List Int) (k:Nat):List Mem:=(List.range k).map fun i=>memC i (1+nxtN l (i+1) 3)
theorem phR (l:List Int) (k:Nat):pb1 l (k+1)=pb1 l k ++ [memC k (1+nxtN l (k+1) 3)]:=by simp [pb1,List.range_succ]
theorem pdp (l:List Int) (k:Nat):(pb1 l k).length=k:=by simp [pb1]
theorem pfl (l:List Int) (k:Nat):pb1 l k=pdc (wsN l k):=by
 unfold pb1 pdc
 have e:(wsN l k).length=k:=by simp [wsN]
 rw [e]
 apply List.map_congr_left
 intro i hi
 have:(wsN l k).getD i 0=1+nxtN l (i+1) 3:=by
  rw [List.getD_eq_getElem?_getD]
  simp [wsN,List.mem_range.1 hi]
 rw [this]
theorem pje (k:Nat):pbQ (k+1)=pbQ k ++ [secN k]:=by simp [pbQ,List.range_succ]
theorem pd8 (k:Nat):(pbQ k).length=k:=by simp [pbQ]
theorem ppU (l:List Int) (k n:Nat):nxtN l (min k l.length) n=nxtN l k n:=by
 by_cases h:k≤l.length
 · rw [Nat.min_eq_left h]
 · rw [pe6 (by omega),pe6 (by omega)]
end Go.Proofs.YtheobkejohifaaaGreatDoor
