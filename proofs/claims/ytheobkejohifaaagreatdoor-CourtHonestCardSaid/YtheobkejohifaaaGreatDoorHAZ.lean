/- court.Contradict at any two texts and what follows. -/
import Derived.Test.YtheobkejohifaaaGreatDoorHAY
import Derived.Test.YtheobkejohifaaaGreatDoorHAV
import Derived.Test.YtheobkejohifaaaGreatDoorHAX
namespace Go.Proofs.YtheobkejohifaaaGreatDoor
open Go.RowKit
set_option maxRecDepth 100000
def ConR (a b:List UInt8) (c:Bool):Prop :=
 (a=b→c=false)∧(a≠b →
  (∀ x y,pa0 a x→pa0 b y→(c=true ↔ (x.k=y.k∧x.h=y.h∧x.v=y.v))) ∧
  (¬ ((∃ x,pa0 a x)∧∃ y,pa0 b y) →
   (∀ e f,pan (preE ++ a) e→pan (preE ++ b) f→(c=true ↔ e.q=f.q)) ∧
   (¬ ((∃ e,pan (preE ++ a) e)∧∃ f,pan (preE ++ b) f)→c=false)))
def prI (a b:List UInt8) (w:World) (e:Ending) (w':World):Prop:=∃ c:Bool,Hid (ConR a b c)∧e=.returned (.bool c)∧Upd [] [] w w'
theorem BalR.none {l:List UInt8} {y:ByteArray} (h:BalR l y false):∀ b,¬ pa0 l b:=by
 rcases h with ⟨h,_⟩ | ⟨_,h⟩
 · cases h
 · exact h
theorem BalR.key {l:List UInt8} {y:ByteArray} (h:BalR l y true):∃ b,pa0 l b∧bs y=b.key:=by
 rcases h with ⟨_,h⟩ | ⟨h,_⟩
 · exact h
 · cases h
set_option maxHeartbeats 8000000 in
theorem pqi (a b:ByteArray) (ha:a.size≤900000000) (hb:b.size≤900000000) (w:World) (htab:Tabs w):Calls Tryz.prog 93 #[.string a,.string b] w (prI (bs a) (bs b) w):=by
 by_cases hab:a=b
 · have HR:Hid (ConR (bs a) (bs b) false):=⟨fun _=>rfl,fun hn=>absurd (by rw [hab]) hn⟩
   have g1:(a.toList == b.toList)=true:=by rw [hab];exact beq_self_eq_true _
   clear hab
   go_enter Tryz.func93,Tryz.ntmps93
   go_wp2_with fail
   go_ret
   exact ⟨false,HR,rfl,Upd.refl _ _⟩
 have HAB:Hid (bs a≠bs b):=fun e=>hab (paM e)
 have g1:(a.toList == b.toList)=false:=by rw [← Bool.not_eq_true];exact fun h=>hab (paM (pbA.1 h))
 have HB1:=Lib.hid (pnA a (by omega) w htab)
 have HB2:=Lib.hid (fun W (u:Upd [] [] w W)=>pnA b (by omega) W (htab.upd u))
 have HE1:=Lib.hid (fun W (u:Upd [] [] w W)=>ph1 a ha W (htab.upd u))
 have HE2:=Lib.hid (fun W (u:Upd [] [] w W)=>ph1 b hb W (htab.upd u))
 have HLA:Hid ((preE ++ bs a).length≤1000000000):=by show _≤_;rw [List.length_append,pac];have:preE.length=4:=rfl;omega
 have HLB:Hid ((preE ++ bs b).length≤1000000000):=by show _≤_;rw [List.length_append,pac];have:preE.length=4:=rfl;omega
 obtain ⟨la,hla⟩:∃ l,preE ++ bs a=l:=⟨_,rfl⟩
 obtain ⟨lb,hlb⟩:∃ l,preE ++ bs b=l:=⟨_,rfl⟩
 rw [hla] at HE1 HLA
 rw [hlb] at HE2 HLB
 have HPA:=Lib.hid hla
 have HPB:=Lib.hid hlb
 clear hla hlb ha hb hab
 go_enter Tryz.func93,Tryz.ntmps93
 go_wp2_with fail
 refine HB1.out.mono ?_
 rintro e w1 ⟨y1,ok1,Y1,rfl,hq⟩
 have U1:=Lib.hid hq
 clear hq HB1
 go_wp2_with fail
 refine (HB2.out w1 U1.out).mono ?_
 rintro e w2 ⟨y2,ok2,Y2,rfl,hq⟩
 have U2:=Lib.hid (U1.out.trans hq)
 clear hq HB2 U1
 cases ok1
 · cases ok2
   · skip
     have HNB:Hid (¬ ((∃ x,pa0 (bs a) x)∧∃ y,pa0 (bs b) y)):=fun h=>by obtain ⟨⟨x,hx⟩,_⟩:=h;exact Y1.out.none x hx
     clear Y1 Y2
     go_wp2_with fail
     refine (HE1.out w2 U2.out).mono ?_
     rintro e w3 ⟨EV,b1,X1,rfl,hq⟩
     have HEVI:=Lib.hid X1.out.info.1
     have HEVO:=Lib.hid X1.out.info.2.1
     have HEVZ:Hid ((#[.int .i64 0,.int .i64 0,.int .i64 0,.int .i64 0,.int .i64 0,.string ⟨#[]⟩,.int .u8 0,.int .u8 0,.int .u8 0,.int .u8 0,.int .u8 0,.int .u8 0,.int .u8 0,.int .u8 0,.int .u8 0,.int .u8 0,.int .u8 0,.int .u8 0,.int .u8 0,.int .u8 0,.int .u8 0,.int .u8 0,.int .u8 0,.int .u8 0,.int .u8 0,.int .u8 0,.int .u8 0,.int .u8 0,.int .u8 0,.int .u8 0,.int .u8 0,.int .u8 0,.int .u8 0,.int .u8 0,.int .u8 0,.int .u8 0,.int .u8 0,.int .u8 0,.int .i64 0,.int .i64 0]:Array Value).size=EV.size):=by show _=_;rw [paz];exact X1.out.info.2.2
     obtain ⟨q1,hi1,cq1,S1,T1⟩:=X1.out.seq HLA.out
     have Q1:=Lib.hid (And.intro S1 T1)
     have C1:=Lib.hid cq1
     have U3:=Lib.hid (U2.out.trans hq)
     clear hq HE1 U2 S1 T1 cq1 hi1
     obtain ⟨w4,Z4,W4,R4,hq4⟩:=paC w3 53 #[.int .i64 0,.int .i64 0,.int .i64 0,.int .i64 0,.int .i64 0,.string ⟨#[]⟩,.int .u8 0,.int .u8 0,.int .u8 0,.int .u8 0,.int .u8 0,.int .u8 0,.int .u8 0,.int .u8 0,.int .u8 0,.int .u8 0,.int .u8 0,.int .u8 0,.int .u8 0,.int .u8 0,.int .u8 0,.int .u8 0,.int .u8 0,.int .u8 0,.int .u8 0,.int .u8 0,.int .u8 0,.int .u8 0,.int .u8 0,.int .u8 0,.int .u8 0,.int .u8 0,.int .u8 0,.int .u8 0,.int .u8 0,.int .u8 0,.int .u8 0,.int .u8 0,.int .i64 0,.int .i64 0] EV
     obtain ⟨gA,hgA⟩:∃ g,w3.heap.size=g:=⟨_,rfl⟩
     rw [hgA] at Z4 W4 R4
     have U4:=Lib.hid (U3.out.trans hq4)
     have hl4:gA<w4.heap.size:=pag R4.out
     clear hq4 U3
     go_wp2_with (first | (refine wpList_store_rowAs rfl 53 _ _ rfl gA EV rfl rfl _ _ Z4.out HEVI.out HEVZ.out HEVO.out w4 W4.out ?_))
     refine (HE2.out w4 U4.out).mono ?_
     rintro e w5 ⟨EW,b2,X2,rfl,hq⟩
     have HEWI:=Lib.hid X2.out.info.1
     have HEWO:=Lib.hid X2.out.info.2.1
     have HEWZ:Hid ((#[.int .i64 0,.int .i64 0,.int .i64 0,.int .i64 0,.int .i64 0,.string ⟨#[]⟩,.int .u8 0,.int .u8 0,.int .u8 0,.int .u8 0,.int .u8 0,.int .u8 0,.int .u8 0,.int .u8 0,.int .u8 0,.int .u8 0,.int .u8 0,.int .u8 0,.int .u8 0,.int .u8 0,.int .u8 0,.int .u8 0,.int .u8 0,.int .u8 0,.int .u8 0,.int .u8 0,.int .u8 0,.int .u8 0,.int .u8 0,.int .u8 0,.int .u8 0,.int .u8 0,.int .u8 0,.int .u8 0,.int .u8 0,.int .u8 0,.int .u8 0,.int .u8 0,.int .i64 0,.int .i64 0]:Array Value).size=EW.size):=by show _=_;rw [paz];exact X2.out.info.2.2
     obtain ⟨q2,hi2,cq2,S2,T2⟩:=X2.out.seq HLB.out
     have Q2:=Lib.hid (And.intro S2 T2)
     have C2:=Lib.hid cq2
     have R5:=Lib.hid (paa R4.out hq)
     have U5:=Lib.hid (U4.out.trans hq)
     have hl5:gA<w5.heap.size:=Nat.lt_of_lt_of_le hl4 hq.size
     clear hq HE2 U4 R4 Z4 W4 S2 T2 cq2 hi2
     obtain ⟨w6,Z6,W6,R6,hq6⟩:=paC w5 53 #[.int .i64 0,.int .i64 0,.int .i64 0,.int .i64 0,.int .i64 0,.string ⟨#[]⟩,.int .u8 0,.int .u8 0,.int .u8 0,.int .u8 0,.int .u8 0,.int .u8 0,.int .u8 0,.int .u8 0,.int .u8 0,.int .u8 0,.int .u8 0,.int .u8 0,.int .u8 0,.int .u8 0,.int .u8 0,.int .u8 0,.int .u8 0,.int .u8 0,.int .u8 0,.int .u8 0,.int .u8 0,.int .u8 0,.int .u8 0,.int .u8 0,.int .u8 0,.int .u8 0,.int .u8 0,.int .u8 0,.int .u8 0,.int .u8 0,.int .u8 0,.int .u8 0,.int .i64 0,.int .i64 0] EW
     obtain ⟨gB,hgB⟩:∃ g,w5.heap.size=g:=⟨_,rfl⟩
     rw [hgB] at Z6 W6 R6
     have cA:w6.cell? ⟨gA,0,none⟩=some (.int .i64 q1):=(cell_of_row _ gA 0 _ _ _ (paa R5.out hq6)).trans C1.out
     have cB:w6.cell? ⟨gB,0,none⟩=some (.int .i64 q2):=(cell_of_row _ gB 0 _ _ _ R6.out).trans C2.out
     have U6:=Lib.hid (U5.out.trans hq6)
     have HF:Hid (∀ c:Bool,(∀ e f,pan la e→pan lb f→(c=true ↔ e.q=f.q))→(¬ ((∃ e,pan la e)∧∃ f,pan lb f)→c=false)→ConR (bs a) (bs b) c):=by
      intro c k1 k2
      refine ⟨fun e=>absurd e HAB.out,fun _=>⟨fun x y hx hy=>absurd ⟨⟨x,hx⟩,y,hy⟩ HNB.out,fun _=>?_⟩⟩
      rw [HPA.out,HPB.out]
      exact ⟨k1,k2⟩
     have HV1:Hid (b1=false→∀ e,¬ pan la e):=fun hf e he=>by have:=(Q1.out.1 e he).1;rw [hf] at this;cases this
     have HV2:Hid (b2=false→∀ e,¬ pan lb e):=fun hf e he=>by have:=(Q2.out.1 e he).1;rw [hf] at this;cases this
     have HVT:Hid (b1=true→b2=true→(∃ e,pan la e)∧∃ f,pan lb f):=by
      intro h1 h2
      refine ⟨Classical.byContradiction fun hn=>?_,Classical.byContradiction fun hn=>?_⟩
      · have:=Q1.out.2 (fun e he=>hn ⟨e,he⟩);rw [h1] at this;cases this
      · have:=Q2.out.2 (fun e he=>hn ⟨e,he⟩);rw [h2] at this;cases this
     have HQE:Hid (∀ e f,pan la e→pan lb f→q1=e.q∧q2=f.q):=fun e f he hf=>⟨(Q1.out.1 e he).2,(Q2.out.1 f hf).2⟩
     clear hq6 U5 R5 R6 C1 C2 X1 X2 Q1 Q2
     cases b1
     · have HR:Hid (ConR (bs a) (bs b) false):=HF.out false (fun e f he _=>absurd he (HV1.out rfl e)) (fun _=>rfl)
       clear HF HV1 HV2 HVT HQE
       go_wp2_with (first | (refine wpList_store_rowAs rfl 53 _ _ rfl gB EW rfl rfl _ _ Z6.out HEWI.out HEWZ.out HEWO.out w6 W6.out ?_))
       go_ret
       exact ⟨false,HR,rfl,U6.out⟩
     cases b2
     · have HR:Hid (ConR (bs a) (bs b) false):=HF.out false (fun e f _ hf=>absurd hf (HV2.out rfl f)) (fun _=>rfl)
       clear HF HV1 HV2 HVT HQE
       go_wp2_with (first | (refine wpList_store_rowAs rfl 53 _ _ rfl gB EW rfl rfl _ _ Z6.out HEWI.out HEWZ.out HEWO.out w6 W6.out ?_))
       go_ret
       exact ⟨false,HR,rfl,U6.out⟩
     by_cases hqq:q1=q2
     · have HR:Hid (ConR (bs a) (bs b) true):=HF.out true (fun e f he hf=>⟨fun _=>by have:=HQE.out e f he hf;rw [← this.1,← this.2];exact hqq,fun _=>rfl⟩) (fun hn=>absurd (HVT.out rfl rfl) hn)
       have g2:(q1 == q2)=true:=by rw [beq_iff_eq];exact hqq
       clear HF HV1 HV2 HVT HQE hqq
       go_wp2_with (first | (refine wpList_store_rowAs rfl 53 _ _ rfl gB EW rfl rfl _ _ Z6.out HEWI.out HEWZ.out HEWO.out w6 W6.out ?_))
       go_ret
       exact ⟨true,HR,rfl,U6.out⟩
     have HR:Hid (ConR (bs a) (bs b) false):=HF.out false (fun e f he hf=>⟨fun h=>(by cases h),fun h=>by have:=HQE.out e f he hf;exact absurd (by rw [this.1,this.2];exact h) hqq⟩) (fun _=>rfl)
     have g2:(q1 == q2)=false:=by rw [beq_eq_false_iff_ne];exact hqq
     clear HF HV1 HV2 HVT HQE hqq
     go_wp2_with (first | (refine wpList_store_rowAs rfl 53 _ _ rfl gB EW rfl rfl _ _ Z6.out HEWI.out HEWZ.out HEWO.out w6 W6.out ?_))
     go_ret
     exact ⟨false,HR,rfl,U6.out⟩
   · skip
     have HNB:Hid (¬ ((∃ x,pa0 (bs a) x)∧∃ y,pa0 (bs b) y)):=fun h=>by obtain ⟨⟨x,hx⟩,_⟩:=h;exact Y1.out.none x hx
     clear Y1 Y2
     go_wp2_with fail
     refine (HE1.out w2 U2.out).mono ?_
     rintro e w3 ⟨EV,b1,X1,rfl,hq⟩
     have HEVI:=Lib.hid X1.out.info.1
     have HEVO:=Lib.hid X1.out.info.2.1
     have HEVZ:Hid ((#[.int .i64 0,.int .i64 0,.int .i64 0,.int .i64 0,.int .i64 0,.string ⟨#[]⟩,.int .u8 0,.int .u8 0,.int .u8 0,.int .u8 0,.int .u8 0,.int .u8 0,.int .u8 0,.int .u8 0,.int .u8 0,.int .u8 0,.int .u8 0,.int .u8 0,.int .u8 0,.int .u8 0,.int .u8 0,.int .u8 0,.int .u8 0,.int .u8 0,.int .u8 0,.int .u8 0,.int .u8 0,.int .u8 0,.int .u8 0,.int .u8 0,.int .u8 0,.int .u8 0,.int .u8 0,.int .u8 0,.int .u8 0,.int .u8 0,.int .u8 0,.int .u8 0,.int .i64 0,.int .i64 0]:Array Value).size=EV.size):=by show _=_;rw [paz];exact X1.out.info.2.2
     obtain ⟨q1,hi1,cq1,S1,T1⟩:=X1.out.seq HLA.out
     have Q1:=Lib.hid (And.intro S1 T1)
     have C1:=Lib.hid cq1
     have U3:=Lib.hid (U2.out.trans hq)
     clear hq HE1 U2 S1 T1 cq1 hi1
     obtain ⟨w4,Z4,W4,R4,hq4⟩:=paC w3 53 #[.int .i64 0,.int .i64 0,.int .i64 0,.int .i64 0,.int .i64 0,.string ⟨#[]⟩,.int .u8 0,.int .u8 0,.int .u8 0,.int .u8 0,.int .u8 0,.int .u8 0,.int .u8 0,.int .u8 0,.int .u8 0,.int .u8 0,.int .u8 0,.int .u8 0,.int .u8 0,.int .u8 0,.int .u8 0,.int .u8 0,.int .u8 0,.int .u8 0,.int .u8 0,.int .u8 0,.int .u8 0,.int .u8 0,.int .u8 0,.int .u8 0,.int .u8 0,.int .u8 0,.int .u8 0,.int .u8 0,.int .u8 0,.int .u8 0,.int .u8 0,.int .u8 0,.int .i64 0,.int .i64 0] EV
     obtain ⟨gA,hgA⟩:∃ g,w3.heap.size=g:=⟨_,rfl⟩
     rw [hgA] at Z4 W4 R4
     have U4:=Lib.hid (U3.out.trans hq4)
     have hl4:gA<w4.heap.size:=pag R4.out
     clear hq4 U3
     go_wp2_with (first | (refine wpList_store_rowAs rfl 53 _ _ rfl gA EV rfl rfl _ _ Z4.out HEVI.out HEVZ.out HEVO.out w4 W4.out ?_))
     refine (HE2.out w4 U4.out).mono ?_
     rintro e w5 ⟨EW,b2,X2,rfl,hq⟩
     have HEWI:=Lib.hid X2.out.info.1
     have HEWO:=Lib.hid X2.out.info.2.1
     have HEWZ:Hid ((#[.int .i64 0,.int .i64 0,.int .i64 0,.int .i64 0,.int .i64 0,.string ⟨#[]⟩,.int .u8 0,.int .u8 0,.int .u8 0,.int .u8 0,.int .u8 0,.int .u8 0,.int .u8 0,.int .u8 0,.int .u8 0,.int .u8 0,.int .u8 0,.int .u8 0,.int .u8 0,.int .u8 0,.int .u8 0,.int .u8 0,.int .u8 0,.int .u8 0,.int .u8 0,.int .u8 0,.int .u8 0,.int .u8 0,.int .u8 0,.int .u8 0,.int .u8 0,.int .u8 0,.int .u8 0,.int .u8 0,.int .u8 0,.int .u8 0,.int .u8 0,.int .u8 0,.int .i64 0,.int .i64 0]:Array Value).size=EW.size):=by show _=_;rw [paz];exact X2.out.info.2.2
     obtain ⟨q2,hi2,cq2,S2,T2⟩:=X2.out.seq HLB.out
     have Q2:=Lib.hid (And.intro S2 T2)
     have C2:=Lib.hid cq2
     have R5:=Lib.hid (paa R4.out hq)
     have U5:=Lib.hid (U4.out.trans hq)
     have hl5:gA<w5.heap.size:=Nat.lt_of_lt_of_le hl4 hq.size
     clear hq HE2 U4 R4 Z4 W4 S2 T2 cq2 hi2
     obtain ⟨w6,Z6,W6,R6,hq6⟩:=paC w5 53 #[.int .i64 0,.int .i64 0,.int .i64 0,.int .i64 0,.int .i64 0,.string ⟨#[]⟩,.int .u8 0,.int .u8 0,.int .u8 0,.int .u8 0,.int .u8 0,.int .u8 0,.int .u8 0,.int .u8 0,.int .u8 0,.int .u8 0,.int .u8 0,.int .u8 0,.int .u8 0,.int .u8 0,.int .u8 0,.int .u8 0,.int .u8 0,.int .u8 0,.int .u8 0,.int .u8 0,.int .u8 0,.int .u8 0,.int .u8 0,.int .u8 0,.int .u8 0,.int .u8 0,.int .u8 0,.int .u8 0,.int .u8 0,.int .u8 0,.int .u8 0,.int .u8 0,.int .i64 0,.int .i64 0] EW
     obtain ⟨gB,hgB⟩:∃ g,w5.heap.size=g:=⟨_,rfl⟩
     rw [hgB] at Z6 W6 R6
     have cA:w6.cell? ⟨gA,0,none⟩=some (.int .i64 q1):=(cell_of_row _ gA 0 _ _ _ (paa R5.out hq6)).trans C1.out
     have cB:w6.cell? ⟨gB,0,none⟩=some (.int .i64 q2):=(cell_of_row _ gB 0 _ _ _ R6.out).trans C2.out
     have U6:=Lib.hid (U5.out.trans hq6)
     have HF:Hid (∀ c:Bool,(∀ e f,pan la e→pan lb f→(c=true ↔ e.q=f.q))→(¬ ((∃ e,pan la e)∧∃ f,pan lb f)→c=false)→ConR (bs a) (bs b) c):=by
      intro c k1 k2
      refine ⟨fun e=>absurd e HAB.out,fun _=>⟨fun x y hx hy=>absurd ⟨⟨x,hx⟩,y,hy⟩ HNB.out,fun _=>?_⟩⟩
      rw [HPA.out,HPB.out]
      exact ⟨k1,k2⟩
     have HV1:Hid (b1=false→∀ e,¬ pan la e):=fun hf e he=>by have:=(Q1.out.1 e he).1;rw [hf] at this;cases this
     have HV2:Hid (b2=false→∀ e,¬ pan lb e):=fun hf e he=>by have:=(Q2.out.1 e he).1;rw [hf] at this;cases this
     have HVT:Hid (b1=true→b2=true→(∃ e,pan la e)∧∃ f,pan lb f):=by
      intro h1 h2
      refine ⟨Classical.byContradiction fun hn=>?_,Classical.byContradiction fun hn=>?_⟩
      · have:=Q1.out.2 (fun e he=>hn ⟨e,he⟩);rw [h1] at this;cases this
      · have:=Q2.out.2 (fun e he=>hn ⟨e,he⟩);rw [h2] at this;cases this
     have HQE:Hid (∀ e f,pan la e→pan lb f→q1=e.q∧q2=f.q):=fun e f he hf=>⟨(Q1.out.1 e he).2,(Q2.out.1 f hf).2⟩
     clear hq6 U5 R5 R6 C1 C2 X1 X2 Q1 Q2
     cases b1
     · have HR:Hid (ConR (bs a) (bs b) false):=HF.out false (fun e f he _=>absurd he (HV1.out rfl e)) (fun _=>rfl)
       clear HF HV1 HV2 HVT HQE
       go_wp2_with (first | (refine wpList_store_rowAs rfl 53 _ _ rfl gB EW rfl rfl _ _ Z6.out HEWI.out HEWZ.out HEWO.out w6 W6.out ?_))
       go_ret
       exact ⟨false,HR,rfl,U6.out⟩
     cases b2
     · have HR:Hid (ConR (bs a) (bs b) false):=HF.out false (fun e f _ hf=>absurd hf (HV2.out rfl f)) (fun _=>rfl)
       clear HF HV1 HV2 HVT HQE
       go_wp2_with (first | (refine wpList_store_rowAs rfl 53 _ _ rfl gB EW rfl rfl _ _ Z6.out HEWI.out HEWZ.out HEWO.out w6 W6.out ?_))
       go_ret
       exact ⟨false,HR,rfl,U6.out⟩
     by_cases hqq:q1=q2
     · have HR:Hid (ConR (bs a) (bs b) true):=HF.out true (fun e f he hf=>⟨fun _=>by have:=HQE.out e f he hf;rw [← this.1,← this.2];exact hqq,fun _=>rfl⟩) (fun hn=>absurd (HVT.out rfl rfl) hn)
       have g2:(q1 == q2)=true:=by rw [beq_iff_eq];exact hqq
       clear HF HV1 HV2 HVT HQE hqq
       go_wp2_with (first | (refine wpList_store_rowAs rfl 53 _ _ rfl gB EW rfl rfl _ _ Z6.out HEWI.out HEWZ.out HEWO.out w6 W6.out ?_))
       go_ret
       exact ⟨true,HR,rfl,U6.out⟩
     have HR:Hid (ConR (bs a) (bs b) false):=HF.out false (fun e f he hf=>⟨fun h=>(by cases h),fun h=>by have:=HQE.out e f he hf;exact absurd (by rw [this.1,this.2];exact h) hqq⟩) (fun _=>rfl)
     have g2:(q1 == q2)=false:=by rw [beq_eq_false_iff_ne];exact hqq
     clear HF HV1 HV2 HVT HQE hqq
     go_wp2_with (first | (refine wpList_store_rowAs rfl 53 _ _ rfl gB EW rfl rfl _ _ Z6.out HEWI.out HEWZ.out HEWO.out w6 W6.out ?_))
     go_ret
     exact ⟨false,HR,rfl,U6.out⟩
 cases ok2
 · skip
   have HNB:Hid (¬ ((∃ x,pa0 (bs a) x)∧∃ y,pa0 (bs b) y)):=fun h=>by obtain ⟨_,x,hx⟩:=h;exact Y2.out.none x hx
   clear Y1 Y2
   go_wp2_with fail
   refine (HE1.out w2 U2.out).mono ?_
   rintro e w3 ⟨EV,b1,X1,rfl,hq⟩
   have HEVI:=Lib.hid X1.out.info.1
   have HEVO:=Lib.hid X1.out.info.2.1
   have HEVZ:Hid ((#[.int .i64 0,.int .i64 0,.int .i64 0,.int .i64 0,.int .i64 0,.string ⟨#[]⟩,.int .u8 0,.int .u8 0,.int .u8 0,.int .u8 0,.int .u8 0,.int .u8 0,.int .u8 0,.int .u8 0,.int .u8 0,.int .u8 0,.int .u8 0,.int .u8 0,.int .u8 0,.int .u8 0,.int .u8 0,.int .u8 0,.int .u8 0,.int .u8 0,.int .u8 0,.int .u8 0,.int .u8 0,.int .u8 0,.int .u8 0,.int .u8 0,.int .u8 0,.int .u8 0,.int .u8 0,.int .u8 0,.int .u8 0,.int .u8 0,.int .u8 0,.int .u8 0,.int .i64 0,.int .i64 0]:Array Value).size=EV.size):=by show _=_;rw [paz];exact X1.out.info.2.2
   obtain ⟨q1,hi1,cq1,S1,T1⟩:=X1.out.seq HLA.out
   have Q1:=Lib.hid (And.intro S1 T1)
   have C1:=Lib.hid cq1
   have U3:=Lib.hid (U2.out.trans hq)
   clear hq HE1 U2 S1 T1 cq1 hi1
   obtain ⟨w4,Z4,W4,R4,hq4⟩:=paC w3 53 #[.int .i64 0,.int .i64 0,.int .i64 0,.int .i64 0,.int .i64 0,.string ⟨#[]⟩,.int .u8 0,.int .u8 0,.int .u8 0,.int .u8 0,.int .u8 0,.int .u8 0,.int .u8 0,.int .u8 0,.int .u8 0,.int .u8 0,.int .u8 0,.int .u8 0,.int .u8 0,.int .u8 0,.int .u8 0,.int .u8 0,.int .u8 0,.int .u8 0,.int .u8 0,.int .u8 0,.int .u8 0,.int .u8 0,.int .u8 0,.int .u8 0,.int .u8 0,.int .u8 0,.int .u8 0,.int .u8 0,.int .u8 0,.int .u8 0,.int .u8 0,.int .u8 0,.int .i64 0,.int .i64 0] EV
   obtain ⟨gA,hgA⟩:∃ g,w3.heap.size=g:=⟨_,rfl⟩
   rw [hgA] at Z4 W4 R4
   have U4:=Lib.hid (U3.out.trans hq4)
   have hl4:gA<w4.heap.size:=pag R4.out
   clear hq4 U3
   go_wp2_with (first | (refine wpList_store_rowAs rfl 53 _ _ rfl gA EV rfl rfl _ _ Z4.out HEVI.out HEVZ.out HEVO.out w4 W4.out ?_))
   refine (HE2.out w4 U4.out).mono ?_
   rintro e w5 ⟨EW,b2,X2,rfl,hq⟩
   have HEWI:=Lib.hid X2.out.info.1
   have HEWO:=Lib.hid X2.out.info.2.1
   have HEWZ:Hid ((#[.int .i64 0,.int .i64 0,.int .i64 0,.int .i64 0,.int .i64 0,.string ⟨#[]⟩,.int .u8 0,.int .u8 0,.int .u8 0,.int .u8 0,.int .u8 0,.int .u8 0,.int .u8 0,.int .u8 0,.int .u8 0,.int .u8 0,.int .u8 0,.int .u8 0,.int .u8 0,.int .u8 0,.int .u8 0,.int .u8 0,.int .u8 0,.int .u8 0,.int .u8 0,.int .u8 0,.int .u8 0,.int .u8 0,.int .u8 0,.int .u8 0,.int .u8 0,.int .u8 0,.int .u8 0,.int .u8 0,.int .u8 0,.int .u8 0,.int .u8 0,.int .u8 0,.int .i64 0,.int .i64 0]:Array Value).size=EW.size):=by show _=_;rw [paz];exact X2.out.info.2.2
   obtain ⟨q2,hi2,cq2,S2,T2⟩:=X2.out.seq HLB.out
   have Q2:=Lib.hid (And.intro S2 T2)
   have C2:=Lib.hid cq2
   have R5:=Lib.hid (paa R4.out hq)
   have U5:=Lib.hid (U4.out.trans hq)
   have hl5:gA<w5.heap.size:=Nat.lt_of_lt_of_le hl4 hq.size
   clear hq HE2 U4 R4 Z4 W4 S2 T2 cq2 hi2
   obtain ⟨w6,Z6,W6,R6,hq6⟩:=paC w5 53 #[.int .i64 0,.int .i64 0,.int .i64 0,.int .i64 0,.int .i64 0,.string ⟨#[]⟩,.int .u8 0,.int .u8 0,.int .u8 0,.int .u8 0,.int .u8 0,.int .u8 0,.int .u8 0,.int .u8 0,.int .u8 0,.int .u8 0,.int .u8 0,.int .u8 0,.int .u8 0,.int .u8 0,.int .u8 0,.int .u8 0,.int .u8 0,.int .u8 0,.int .u8 0,.int .u8 0,.int .u8 0,.int .u8 0,.int .u8 0,.int .u8 0,.int .u8 0,.int .u8 0,.int .u8 0,.int .u8 0,.int .u8 0,.int .u8 0,.int .u8 0,.int .u8 0,.int .i64 0,.int .i64 0] EW
   obtain ⟨gB,hgB⟩:∃ g,w5.heap.size=g:=⟨_,rfl⟩
   rw [hgB] at Z6 W6 R6
   have cA:w6.cell? ⟨gA,0,none⟩=some (.int .i64 q1):=(cell_of_row _ gA 0 _ _ _ (paa R5.out hq6)).trans C1.out
   have cB:w6.cell? ⟨gB,0,none⟩=some (.int .i64 q2):=(cell_of_row _ gB 0 _ _ _ R6.out).trans C2.out
   have U6:=Lib.hid (U5.out.trans hq6)
   have HF:Hid (∀ c:Bool,(∀ e f,pan la e→pan lb f→(c=true ↔ e.q=f.q))→(¬ ((∃ e,pan la e)∧∃ f,pan lb f)→c=false)→ConR (bs a) (bs b) c):=by
    intro c k1 k2
    refine ⟨fun e=>absurd e HAB.out,fun _=>⟨fun x y hx hy=>absurd ⟨⟨x,hx⟩,y,hy⟩ HNB.out,fun _=>?_⟩⟩
    rw [HPA.out,HPB.out]
    exact ⟨k1,k2⟩
   have HV1:Hid (b1=false→∀ e,¬ pan la e):=fun hf e he=>by have:=(Q1.out.1 e he).1;rw [hf] at this;cases this
   have HV2:Hid (b2=false→∀ e,¬ pan lb e):=fun hf e he=>by have:=(Q2.out.1 e he).1;rw [hf] at this;cases this
   have HVT:Hid (b1=true→b2=true→(∃ e,pan la e)∧∃ f,pan lb f):=by
    intro h1 h2
    refine ⟨Classical.byContradiction fun hn=>?_,Classical.byContradiction fun hn=>?_⟩
    · have:=Q1.out.2 (fun e he=>hn ⟨e,he⟩);rw [h1] at this;cases this
    · have:=Q2.out.2 (fun e he=>hn ⟨e,he⟩);rw [h2] at this;cases this
   have HQE:Hid (∀ e f,pan la e→pan lb f→q1=e.q∧q2=f.q):=fun e f he hf=>⟨(Q1.out.1 e he).2,(Q2.out.1 f hf).2⟩
   clear hq6 U5 R5 R6 C1 C2 X1 X2 Q1 Q2
   cases b1
   · have HR:Hid (ConR (bs a) (bs b) false):=HF.out false (fun e f he _=>absurd he (HV1.out rfl e)) (fun _=>rfl)
     clear HF HV1 HV2 HVT HQE
     go_wp2_with (first | (refine wpList_store_rowAs rfl 53 _ _ rfl gB EW rfl rfl _ _ Z6.out HEWI.out HEWZ.out HEWO.out w6 W6.out ?_))
     go_ret
     exact ⟨false,HR,rfl,U6.out⟩
   cases b2
   · have HR:Hid (ConR (bs a) (bs b) false):=HF.out false (fun e f _ hf=>absurd hf (HV2.out rfl f)) (fun _=>rfl)
     clear HF HV1 HV2 HVT HQE
     go_wp2_with (first | (refine wpList_store_rowAs rfl 53 _ _ rfl gB EW rfl rfl _ _ Z6.out HEWI.out HEWZ.out HEWO.out w6 W6.out ?_))
     go_ret
     exact ⟨false,HR,rfl,U6.out⟩
   by_cases hqq:q1=q2
   · have HR:Hid (ConR (bs a) (bs b) true):=HF.out true (fun e f he hf=>⟨fun _=>by have:=HQE.out e f he hf;rw [← this.1,← this.2];exact hqq,fun _=>rfl⟩) (fun hn=>absurd (HVT.out rfl rfl) hn)
     have g2:(q1 == q2)=true:=by rw [beq_iff_eq];exact hqq
     clear HF HV1 HV2 HVT HQE hqq
     go_wp2_with (first | (refine wpList_store_rowAs rfl 53 _ _ rfl gB EW rfl rfl _ _ Z6.out HEWI.out HEWZ.out HEWO.out w6 W6.out ?_))
     go_ret
     exact ⟨true,HR,rfl,U6.out⟩
   have HR:Hid (ConR (bs a) (bs b) false):=HF.out false (fun e f he hf=>⟨fun h=>(by cases h),fun h=>by have:=HQE.out e f he hf;exact absurd (by rw [this.1,this.2];exact h) hqq⟩) (fun _=>rfl)
   have g2:(q1 == q2)=false:=by rw [beq_eq_false_iff_ne];exact hqq
   clear HF HV1 HV2 HVT HQE hqq
   go_wp2_with (first | (refine wpList_store_rowAs rfl 53 _ _ rfl gB EW rfl rfl _ _ Z6.out HEWI.out HEWZ.out HEWO.out w6 W6.out ?_))
   go_ret
   exact ⟨false,HR,rfl,U6.out⟩
 obtain ⟨x,hx,kx⟩:=Y1.out.key
 obtain ⟨y,hy,ky⟩:=Y2.out.key
 have HKK:Hid (y1=y2 ↔ (x.k=y.k∧x.h=y.h∧x.v=y.v)):=by
  show _ ↔ _
  rw [← pqe hx.1 hy.1,← kx,← ky]
  exact ⟨fun e=>by rw [e],fun e=>paM e⟩
 have HF:Hid (∀ c:Bool,(c=true ↔ y1=y2)→ConR (bs a) (bs b) c):=by
  intro c hc
  refine ⟨fun e=>absurd e HAB.out,fun _=>⟨fun x' y' hx' hy'=>?_,fun hn=>absurd ⟨⟨x,hx⟩,y,hy⟩ hn⟩⟩
  rw [ph8 hx' hx,ph8 hy' hy]
  exact hc.trans HKK.out
 clear hx hy kx ky HKK Y1 Y2 HE1 HE2
 by_cases hyy:y1=y2
 · have HR:Hid (ConR (bs a) (bs b) true):=HF.out true ⟨fun _=>hyy,fun _=>rfl⟩
   have g2:(y1.toList == y2.toList)=true:=pbA.2 (by rw [hyy])
   clear HF hyy
   go_wp2_with fail
   go_ret
   exact ⟨true,HR,rfl,U2.out⟩
 have HR:Hid (ConR (bs a) (bs b) false):=HF.out false ⟨fun h=>(by cases h),fun h=>absurd h hyy⟩
 have g2:(y1.toList == y2.toList)=false:=by rw [← Bool.not_eq_true];exact fun h=>hyy (paM (pbA.1 h))
 clear HF hyy
 go_wp2_with fail
 go_ret
 exact ⟨false,HR,rfl,U2.out⟩
theorem pnB (w:World):(Instr.makeSlice 92 (.int .i64 4) (.int .i64 4)).run Tryz.prog w=.ok (.slice (some ⟨w.heap.size,0,none⟩) 4 4) (w.alloc (.cells #[.string ⟨#[]⟩,.string ⟨#[]⟩,.string ⟨#[]⟩,.string ⟨#[]⟩] 9)):=by
 have h:(Tryz.prog.info? 9).map (fun i=>(i.zero,i.size,i.bytes))=some (some (.string ⟨#[]⟩),1,16):=by kernel_rfl
 obtain ⟨i0,hi,he⟩:=Option.map_eq_some_iff.1 h
 simp only [Prod.mk.injEq] at he
 have:=run_make (P:=Tryz.prog) w 92 9 i0 (.string ⟨#[]⟩) Tryz.underlying92 hi he.1 .i64 .i64 4 4 (by omega) (by omega) (by rw [he.2.2];omega) (by omega)
 have hm:madeCells (Value.string ⟨#[]⟩).cells (Int.toNat 4 * 1)=#[.string ⟨#[]⟩,.string ⟨#[]⟩,.string ⟨#[]⟩,.string ⟨#[]⟩]:=by kernel_rfl
 rw [this,he.2.1,hm]
 rfl
set_option maxHeartbeats 2000000 in
theorem pfH (x v c z:Int) (h1:pab x) (h2:pab v) (h3:pab c) (h4:pab z) (w:World) (htab:Tabs w):Calls Tryz.prog 226 #[.agg #[.int .i64 x,.int .i64 v,.int .i64 c,.int .i64 z]] w (MkS (pcO x v c z) w):=by
 obtain ⟨g,hg⟩:∃ g,w.heap.size=g:=⟨_,rfl⟩
 obtain ⟨w0,hw0⟩:∃ W,w.alloc (.cells #[.int .i64 x,.int .i64 v,.int .i64 c,.int .i64 z] 40)=W:=⟨_,rfl⟩
 have r0:w0.heap[g]? =some (.cells #[.int .i64 x,.int .i64 v,.int .i64 c,.int .i64 z] 40 (0,0)):=by rw [← hg,← hw0];exact heap_alloc_new _ _
 have u0:Upd [] [] w w0:=by rw [← hw0];exact (Upd.refl _ _).alloc _
 have d0:=cell_of_row _ g 0 _ _ _ r0
 have d1:=cell_of_row _ g 1 _ _ _ r0
 have d2:=cell_of_row _ g 2 _ _ _ r0
 have d3:=cell_of_row _ g 3 _ _ _ r0
 obtain ⟨gN,hgN⟩:∃ g,w0.heap.size=g:=⟨_,rfl⟩
 obtain ⟨w1,hw1⟩:∃ W,w0.alloc (.cells #[.int .i64 x,.int .i64 v,.int .i64 c,.int .i64 z] 3)=W:=⟨_,rfl⟩
 have r1:=Lib.hid (show w1.heap[gN]? =some (.cells #[.int .i64 x,.int .i64 v,.int .i64 c,.int .i64 z] 3 (0,0)) by rw [← hgN,← hw1];exact heap_alloc_new _ _)
 have u1:Upd [] [] w0 w1:=by rw [← hw1];exact (Upd.refl _ _).alloc _
 obtain ⟨gP,hgP⟩:∃ g,w1.heap.size=g:=⟨_,rfl⟩
 obtain ⟨y0,hy0⟩:∃ W,w1.alloc (.cells #[.string ⟨#[]⟩,.string ⟨#[]⟩,.string ⟨#[]⟩,.string ⟨#[]⟩] 9)=W:=⟨_,rfl⟩
 have q0:=Lib.hid (show y0.heap[gP]? =some (.cells #[.string ⟨#[]⟩,.string ⟨#[]⟩,.string ⟨#[]⟩,.string ⟨#[]⟩] 9 (0,0)) by rw [← hgP,← hy0];exact heap_alloc_new _ _)
 have u2:Upd [] [] w1 y0:=by rw [← hy0];exact (Upd.refl _ _).alloc _
 have n0:=Lib.hid (paa r1.out u2)
 have lw:w.heap.size≤gP:=by have:=u0.size;have:=u1.size;omega
 have lNP:gN<gP:=by have:=pag r1.out;omega
 have HL:=Lib.hid (And.intro lw lNP)
 have U0:=Lib.hid ((u0.trans u1).trans u2)
 have HI:=Lib.hid (And.intro h1 (And.intro h2 (And.intro h3 h4)))
 clear u0 u1 u2 r0 r1 lw lNP h1 h2 h3 h4
 have hmk:=pnB w1
 rw [hy0,hgP] at hmk
 go_enter Tryz.func226,Tryz.ntmps226
 go_wp2_with fail
 refine wp_loop_rounds 5 ?_
 rw [rounds_succ]
 have c0:y0.cell? ⟨gN,0,none⟩=some (.int .i64 x):=cell_of_row _ gN 0 _ _ _ n0.out
 go_wp2_with fail
 refine (paD x y0 HI.out.1 (htab.upd U0.out)).mono ?_
 rintro e z0 ⟨s0,HY0,_,rfl,hq⟩
 have a0:=paa q0.out hq
 have d0:z0.cell? ⟨gP,0,none⟩=some (.string ⟨#[]⟩):=cell_of_row _ gP 0 _ _ _ a0
 have f0:=frozen_of_row _ gP 0 _ _ a0
 obtain ⟨y1,hy1⟩:∃ W,z0.setCell ⟨gP,0,none⟩ (.string s0)=W:=⟨_,rfl⟩
 have q1:Hid (y1.heap[gP]? =some (.cells #[.string s0,.string ⟨#[]⟩,.string ⟨#[]⟩,.string ⟨#[]⟩] 9 (0,0))):=by
  show _=_
  rw [← hy1]
  exact heap_setCell_same z0 gP 0 _ _ _ a0
 have n1:Hid (y1.heap[gN]? =some (.cells #[.int .i64 x,.int .i64 v,.int .i64 c,.int .i64 z] 3 (0,0))):=by
  show _=_
  rw [← hy1,Below.heap_setCell _ _ _ _ (show gN≠gP by have:=HL.out.2;omega)]
  exact paa n0.out hq
 have U1:Hid (Upd [] [] w y1):=by
  show Upd _ _ _ _
  rw [← hy1]
  exact (U0.out.trans hq).setNew (p:=⟨gP,0,none⟩) HL.out.1 _
 clear hq a0 c0 U0 q0 n0
 go_wp2_with fail
 clear d0 f0 hy1
 rw [rounds_succ]
 have c1:y1.cell? ⟨gN,1,none⟩=some (.int .i64 v):=cell_of_row _ gN 1 _ _ _ n1.out
 go_wp2_with fail
 refine (paD v y1 HI.out.2.1 (htab.upd U1.out)).mono ?_
 rintro e z1 ⟨s1,HY1,_,rfl,hq⟩
 have a1:=paa q1.out hq
 have d1:z1.cell? ⟨gP,1,none⟩=some (.string ⟨#[]⟩):=cell_of_row _ gP 1 _ _ _ a1
 have f1:=frozen_of_row _ gP 1 _ _ a1
 obtain ⟨y2,hy2⟩:∃ W,z1.setCell ⟨gP,1,none⟩ (.string s1)=W:=⟨_,rfl⟩
 have q2:Hid (y2.heap[gP]? =some (.cells #[.string s0,.string s1,.string ⟨#[]⟩,.string ⟨#[]⟩] 9 (0,0))):=by
  show _=_
  rw [← hy2]
  exact heap_setCell_same z1 gP 1 _ _ _ a1
 have n2:Hid (y2.heap[gN]? =some (.cells #[.int .i64 x,.int .i64 v,.int .i64 c,.int .i64 z] 3 (0,0))):=by
  show _=_
  rw [← hy2,Below.heap_setCell _ _ _ _ (show gN≠gP by have:=HL.out.2;omega)]
  exact paa n1.out hq
 have U2:Hid (Upd [] [] w y2):=by
  show Upd _ _ _ _
  rw [← hy2]
  exact (U1.out.trans hq).setNew (p:=⟨gP,1,none⟩) HL.out.1 _
 clear hq a1 c1 U1 q1 n1
 go_wp2_with fail
 clear d1 f1 hy2
 rw [rounds_succ]
 have c2:y2.cell? ⟨gN,2,none⟩=some (.int .i64 c):=cell_of_row _ gN 2 _ _ _ n2.out
 go_wp2_with fail
 refine (paD c y2 HI.out.2.2.1 (htab.upd U2.out)).mono ?_
 rintro e z2 ⟨s2,HY2,_,rfl,hq⟩
 have a2:=paa q2.out hq
 have d2:z2.cell? ⟨gP,2,none⟩=some (.string ⟨#[]⟩):=cell_of_row _ gP 2 _ _ _ a2
 have f2:=frozen_of_row _ gP 2 _ _ a2
 obtain ⟨y3,hy3⟩:∃ W,z2.setCell ⟨gP,2,none⟩ (.string s2)=W:=⟨_,rfl⟩
 have q3:Hid (y3.heap[gP]? =some (.cells #[.string s0,.string s1,.string s2,.string ⟨#[]⟩] 9 (0,0))):=by
  show _=_
  rw [← hy3]
  exact heap_setCell_same z2 gP 2 _ _ _ a2
 have n3:Hid (y3.heap[gN]? =some (.cells #[.int .i64 x,.int .i64 v,.int .i64 c,.int .i64 z] 3 (0,0))):=by
  show _=_
  rw [← hy3,Below.heap_setCell _ _ _ _ (show gN≠gP by have:=HL.out.2;omega)]
  exact paa n2.out hq
 have U3:Hid (Upd [] [] w y3):=by
  show Upd _ _ _ _
  rw [← hy3]
  exact (U2.out.trans hq).setNew (p:=⟨gP,2,none⟩) HL.out.1 _
 clear hq a2 c2 U2 q2 n2
 go_wp2_with fail
 clear d2 f2 hy3
 rw [rounds_succ]
 have c3:y3.cell? ⟨gN,3,none⟩=some (.int .i64 z):=cell_of_row _ gN 3 _ _ _ n3.out
 go_wp2_with fail
 refine (paD z y3 HI.out.2.2.2 (htab.upd U3.out)).mono ?_
 rintro e z3 ⟨s3,HY3,_,rfl,hq⟩
 have a3:=paa q3.out hq
 have d3:z3.cell? ⟨gP,3,none⟩=some (.string ⟨#[]⟩):=cell_of_row _ gP 3 _ _ _ a3
 have f3:=frozen_of_row _ gP 3 _ _ a3
 obtain ⟨y4,hy4⟩:∃ W,z3.setCell ⟨gP,3,none⟩ (.string s3)=W:=⟨_,rfl⟩
 have q4:Hid (y4.heap[gP]? =some (.cells #[.string s0,.string s1,.string s2,.string s3] 9 (0,0))):=by
  show _=_
  rw [← hy4]
  exact heap_setCell_same z3 gP 3 _ _ _ a3
 have n4:Hid (y4.heap[gN]? =some (.cells #[.int .i64 x,.int .i64 v,.int .i64 c,.int .i64 z] 3 (0,0))):=by
  show _=_
  rw [← hy4,Below.heap_setCell _ _ _ _ (show gN≠gP by have:=HL.out.2;omega)]
  exact paa n3.out hq
 have U4:Hid (Upd [] [] w y4):=by
  show Upd _ _ _ _
  rw [← hy4]
  exact (U3.out.trans hq).setNew (p:=⟨gP,3,none⟩) HL.out.1 _
 clear hq a3 c3 U3 q3 n3
 go_wp2_with fail
 clear d3 f3 hy4
 rw [rounds_succ]
 go_wp2_with fail
 have hXS:pfV y4 gP [s0,s1,s2,s3]:=⟨pag q4.out,fun j a hj=>by
  rw [cell_of_row _ _ _ _ _ _ q4.out,Nat.zero_add]
  match j,hj with
  | 0,hj=>simp at hj;subst hj;rfl
  | 1,hj=>simp at hj;subst hj;rfl
  | 2,hj=>simp at hj;subst hj;rfl
  | 3,hj=>simp at hj;subst hj;rfl⟩
 have hjoin:Lib.join (([s0,s1,s2,s3]:List ByteArray).map bs) [32]=pcO x v c z:=by
  show Lib.join [bs s0,bs s1,bs s2,bs s3] [32]=_
  rw [HY0.out,HY1.out,HY2.out,HY3.out]
  rfl
 have hj:=Tryz.strings_Join gP 0 4 [s0,s1,s2,s3] ⟨#[32]⟩ _ hXS.2 hXS.1 (by simp) (by simp) (by
  show (Lib.join (_) [32]).length≤_
  have e:=congrArg List.length hjoin
  have h:=pfq x v c z HI.out.1 HI.out.2.1 HI.out.2.2.1 HI.out.2.2.2
  exact Nat.le_trans (Nat.le_of_eq e) (by omega))
 refine hj.mono ?_
 rintro e w9 ⟨rfl,hb⟩
 have hu:=paA hb
 obtain ⟨T,hT⟩:∃ T:ByteArray,T=⟨(Lib.join (([s0,s1,s2,s3]:List ByteArray).map (·.data.toList)) (⟨#[32]⟩:ByteArray).data.toList).toArray⟩:=⟨_,rfl⟩
 rw [← hT]
 have HB:Hid (bs T=pcO x v c z):=by
  show _=_
  rw [hT,pc8]
  exact hjoin
 have HU:=Lib.hid (U4.out.trans hu)
 clear hj hXS hjoin hb hu hT
 go_wp2_with fail
 go_ret
 exact ⟨T,HB,by rw [← HB.out,pac];exact Nat.le_refl _,rfl,HU.out⟩
def pfI (l:List UInt8) (x v c z:Int):Prop:=pab x∧pab v∧pab c∧pab z∧l=pcO x v c z
def pra (l:List UInt8) (w:World) (e:Ending) (w':World):Prop :=
 ∃ (x v c z:Int) (ok:Bool),Hid ((ok=true∧pfI l x v c z)∨(ok=false∧(∀ x v c z,¬ pfI l x v c z)∧x=0∧v=0∧c=0∧z=0))∧e=.returned (.tuple #[.agg #[.int .i64 x,.int .i64 v,.int .i64 c,.int .i64 z],.bool ok])∧Upd [] [] w w'
theorem ptNo {l:List UInt8} {w W:World} (hn:∀ x v c z,¬ pfI l x v c z) (u:Upd [] [] w W):pra l w (.returned (.tuple #[.agg ptZ,.bool false])) W :=
 ⟨0,0,0,0,false,.inr ⟨rfl,hn,rfl,rfl,rfl,rfl⟩,rfl,u⟩
theorem poR:Tryz.prog.built 40 []=some ptZ:=by kernel_rfl
theorem peA {P:Program} {ops:Array Oper} {rest:List Oper} {o:Oper} {a:Act} {w:World} {Q:Exit→Act→World→Prop} (hw:Region.wanted o (yielded ops a.tmps)=true) (ty:TypeId) (x:Operand) (ho:o.op=.load ty x)
 (g:Nat) (hx:a.eval x=.pointer (some ⟨g,0,none⟩)) (t:TypeId) (cs:Array Value) (fr:Nat × Nat) (d:TypeDesc) (hg:w.heap[g]? =some (.cells cs t fr))
 (hu:P.underlying ty=some d) (hd:(match d with | .struct _ | .array _ _=>true | _=>false)=true) (hi:(P.info? ty).map (·.size)=some cs.size)
 (h:wpList P ops Q rest (a.put o.dst (.agg cs)) w):wpList P ops Q (o :: rest) a w:=by
 show (if _ then _ else _)
 rw [if_pos hw]
 exact Or.inl (wp_load_row ty x ho g hx t cs fr d hg hu hd hi h)
def RdN (gO:Nat) (ok:Bool) (x:ByteArray) (W:World) (e:Ending) (w':World):Prop :=
 ∃ (v:Int) (o:Bool),Hid (o=true→ok=true∧Lib.atoiAll (bs x)=.ok v)∧Hid (ok=true→(∃ m,pab m∧bs x=Lib.itoa m)→o=true)∧pab v∧e=.returned (.int .i64 v)∧Upd [gO] [gO] W w'∧w'.heap[gO]? =some (.cells #[.bool o] 4 (0,0))
set_option maxHeartbeats 1000000 in
theorem pg0 {W:World} {gS gO gP k:Nat} {x:ByteArray} {ok:Bool} (hS:W.cell? ⟨gS,0,none⟩=some (.slice (some ⟨gP,0,none⟩) 4 4)) (hP:W.cell? ⟨gP,k,none⟩=some (.string x)) (hk:k<4) (hO:W.heap[gO]? =some (.cells #[.bool ok] 4 (0,0))) (hx:x.size≤1000000) (htab:Tabs W) :
 Calls Tryz.prog 225 #[.int .i64 (k:Int),.pointer (some ⟨gS,0,none⟩),.pointer (some ⟨gO,0,none⟩)] W (RdN gO ok x W):=by
 have i0:(0:Int)≤(k:Int):=by omega
 have i1:(k:Int)<4:=by omega
 by_cases hv:∃ v,Lib.atoiAll (bs x)=.ok v
 · obtain ⟨v,hv⟩:=hv
   have hvi:pab v:=Lib.atoiAll_bounds hv
   have HA:=Lib.hid (pdW x v W (by omega) hv)
   have HV:=Lib.hid hv
   have HO:=Lib.hid hO
   clear hv hO hx
   go_enter Tryz.func225,Tryz.ntmps225
   go_wp2_with fail
   refine HA.out.mono ?_
   rintro e w1 ⟨rfl,hq⟩
   have HQ:=Lib.hid hq
   clear hq HA hS hP
   go_wp2_with fail
   go_ret
   exact ⟨v,ok,fun h=>⟨h,HV.out⟩,fun h _=>h,hvi,rfl,HQ.out.widen (by simp),paa HO.out HQ.out⟩
 · have hv':∀ v,Lib.atoiAll (bs x)≠.ok v:=fun v e=>hv ⟨v,e⟩
   have HA:=Lib.hid (pcU x W (by omega) hv' htab)
   have HV:=Lib.hid hv'
   have HO:=Lib.hid hO
   clear hv hv' hO hx
   go_enter Tryz.func225,Tryz.ntmps225
   go_wp2_with fail
   refine HA.out.mono ?_
   rintro e w1 ⟨v,N,rfl,hvi,hq⟩
   have HQ:=Lib.hid hq
   have r1:=paa HO.out hq
   have c1:=(cell_of_row _ gO 0 _ _ _ r1).trans (show _=some (Value.bool ok) from rfl)
   have f1:=frozen_of_row _ gO 0 _ _ r1
   have R2:=Lib.hid (heap_setCell_same w1 gO 0 _ _ (.bool false) r1)
   clear hq HA hS hP r1
   go_wp2_with fail
   go_ret
   refine ⟨v,false,(fun h=>by cases h),(fun _ hm=>?_),hvi,rfl,(HQ.out.widen (K:=[gO]) (by simp)).setCell (p:=⟨gO,0,none⟩) (by simp) _,R2.out⟩
   obtain ⟨m,hm,he⟩:=hm
   exact absurd (by rw [he];exact paH m hm) (HV.out m)
set_option maxHeartbeats 8000000 in
theorem plq (s:ByteArray) (hs:s.size≤1000000) (w:World) (htab:Tabs w):Calls Tryz.prog 188 #[.string s] w (pra (bs s) w):=by
 obtain ⟨gR,hgR⟩:∃ g,w.heap.size=g:=⟨_,rfl⟩
 obtain ⟨w1,hw1⟩:∃ W,w.alloc (.cells ptZ 40)=W:=⟨_,rfl⟩
 have s1:=Lib.hid (show w1.heap[gR]? =some (.cells ptZ 40 (0,0)) by rw [← hgR,← hw1];exact heap_alloc_new _ _)
 have u1:=Lib.hid (show Upd [] [] w w1 by rw [← hw1];exact (Upd.refl _ _).alloc _)
 have HG:Hid (w.heap.size≤gR):=Nat.le_of_eq hgR
 have hw1':w.alloc (.cells #[.int .i64 0,.int .i64 0,.int .i64 0,.int .i64 0] 40)=w1:=hw1
 have HSP:=Lib.hid (pgZ s (by omega) w1 (htab.upd u1.out))
 obtain ⟨DZ,hDZ⟩:∃ DZ,DZ=ptZ:=⟨_,rfl⟩
 have HDZ:=Lib.hid hDZ
 have HB0:Hid (Tryz.prog.built 40 []=some DZ):=by rw [hDZ];exact poR
 have HI0:Hid ((Tryz.prog.info? 40).map (·.size)=some DZ.size):=by rw [hDZ];exact pcb _ _ _ _
 have HOZ:Hid (DZ.all (·.oneCell')=true):=by rw [hDZ];show _=_;simp [ptZ,Value.oneCell']
 have HS:=Lib.hid hs
 rw [← hDZ] at s1
 clear hw1 hs hDZ
 go_enter Tryz.func188,Tryz.ntmps188
 go_wp2_with fail
 refine HSP.out.mono ?_
 rintro e w2 ⟨P,HP,rfl,hw2⟩
 obtain ⟨gP,hgP⟩:∃ g,w1.heap.size=g:=⟨_,rfl⟩
 obtain ⟨n,hn⟩:∃ n,n=P.length:=⟨_,rfl⟩
 rw [← hn,hgP]
 have q2:Upd [] [] w1 w2:=by rw [hw2];exact (Upd.refl _ _).alloc _
 have RP:w2.heap[gP]? =some (.cells (P.map Value.string).toArray 9 (0,0)):=by rw [hw2,← hgP];exact heap_alloc_new _ _
 have HPC:Hid (∀ W,Upd [] [] w2 W→∀ (j:Nat) (x:ByteArray),P[j]? =some x→W.cell? ⟨gP,j,none⟩=some (.string x)):=fun W u j x hx=>by
  rw [cell_of_row _ gP j _ _ _ (paa RP u),List.getElem?_toArray,List.getElem?_map,hx]
  rfl
 have HPS:Hid (∀ (j:Nat) (x:ByteArray),P[j]? =some x→x.size≤1000000):=fun j x hx=>Nat.le_trans (HP.out.2.1 x (List.mem_of_getElem? hx)) HS.out
 have hn64:n≤4294967296:=by rw [hn];exact HP.out.2.2
 have HN:=Lib.hid hn
 obtain ⟨gS,hgS⟩:∃ g,w2.heap.size=g:=⟨_,rfl⟩
 have hA:(w2.alloc (.cells #[.slice none 0 0] 92)).heap[gS]? =some (.cells #[.slice none 0 0] 92 (0,0)):=by rw [← hgS];exact heap_alloc_new _ _
 have cA:=(cell_of_row _ gS 0 _ _ _ hA).trans (show _=some (Value.slice none 0 0) from rfl)
 have fA:=frozen_of_row _ gS 0 _ _ hA
 obtain ⟨w3,hw3⟩:∃ W,(w2.alloc (.cells #[.slice none 0 0] 92)).setCell ⟨gS,0,none⟩ (.slice (some ⟨gP,0,none⟩) n n)=W:=⟨_,rfl⟩
 have q3:Upd [] [] w2 w3:=by rw [← hw3];exact ((Upd.refl _ _).alloc _).setNew (p:=⟨gS,0,none⟩) (Nat.le_of_eq hgS) _
 have RS:=Lib.hid (show w3.heap[gS]? =some (.cells #[.slice (some ⟨gP,0,none⟩) n n] 92 (0,0)) by
  rw [← hw3]
  exact heap_setCell_same _ gS 0 _ _ _ hA)
 have U3:=Lib.hid ((u1.out.trans q2).trans q3)
 have S3:=Lib.hid (paa (paa s1.out q2) q3)
 have Q3:=Lib.hid q3
 have c0:=(cell_of_row _ gS 0 _ _ _ RS.out).trans (show _=some (Value.slice (some ⟨gP,0,none⟩) n n) from rfl)
 have T3:=Lib.hid (htab.upd U3.out)
 have HGP:Hid (gR<w3.heap.size∧gP<w3.heap.size∧gS<w3.heap.size):=⟨pag S3.out,Nat.lt_of_lt_of_le (pag RP) q3.size,pag RS.out⟩
 clear HSP hw2 hn q2 q3 u1 s1 RP hA hw1' hgP
 by_cases h4:n=4
 case neg =>
  have HNO:Hid (∀ x v c z,¬ pfI (bs s) x v c z):=fun x v c z h=>by
   have e:=congrArg List.length (pbG _ _ _ HP.out.1 (h.2.2.2.2 ▸ pcB x v c z))
   rw [List.length_map] at e
   exact h4 (HN.out.trans e)
  have h4':¬ (n:Int)=4:=by omega
  clear h4
  go_wp2_with (first | (refine wpList_buildTo rfl 40 #[] rfl _ rfl DZ (Eq.trans (congrArg (fun z=>Tryz.prog.built 40 z) (by kernel_rfl)) HB0.out) ?_) | (refine wpList_store_row rfl 40 _ _ rfl gR DZ rfl rfl _ _ S3.out HI0.out rfl HOZ.out ?_))
  refine bodyPost_ret (results_row_tmp rfl _ _ gR _ DZ _ _ rfl (setRow_heap _ _ _ _ _ _ S3.out) Tryz.underlying40 rfl HI0.out) rfl ?_
  rw [HDZ.out]
  exact ptNo HNO.out (U3.out.setRowNew HG.out _)
 obtain ⟨p0,p1,p2,p3,hP⟩:=pny (HN.out.symm.trans h4)
 have h4':(n:Int)=4:=by omega
 rw [h4] at RS c0
 have HPP:=Lib.hid hP
 have HK:Hid (∀ W,Upd [] [] w3 W→W.cell? ⟨gS,0,none⟩=some (.slice (some ⟨gP,0,none⟩) 4 4)∧W.cell? ⟨gP,0,none⟩=some (.string p0)∧W.cell? ⟨gP,1,none⟩=some (.string p1)∧W.cell? ⟨gP,2,none⟩=some (.string p2)∧W.cell? ⟨gP,3,none⟩=some (.string p3)):=fun W u =>
  ⟨cell_of_row _ gS 0 _ _ _ (paa RS.out u),HPC.out W (Q3.out.trans u) 0 p0 (by rw [hP];rfl),HPC.out W (Q3.out.trans u) 1 p1 (by rw [hP];rfl),HPC.out W (Q3.out.trans u) 2 p2 (by rw [hP];rfl),HPC.out W (Q3.out.trans u) 3 p3 (by rw [hP];rfl)⟩
 have HZS:Hid (p0.size≤1000000∧p1.size≤1000000∧p2.size≤1000000∧p3.size≤1000000):=⟨HPS.out 0 p0 (by rw [hP];rfl),HPS.out 1 p1 (by rw [hP];rfl),HPS.out 2 p2 (by rw [hP];rfl),HPS.out 3 p3 (by rw [hP];rfl)⟩
 have HW:Hid (∀ x v c z,pfI (bs s) x v c z→bs p0=Lib.itoa x∧bs p1=Lib.itoa v∧bs p2=Lib.itoa c∧bs p3=Lib.itoa z):=fun x v c z h=>by
  have e:=pbG _ _ _ HP.out.1 (h.2.2.2.2 ▸ pcB x v c z)
  rw [hP] at e
  simpa using e
 obtain ⟨gO,hgO⟩:∃ g,w3.heap.size=g:=⟨_,rfl⟩
 have hA:(w3.alloc (.cells #[.bool false] 4)).heap[gO]? =some (.cells #[.bool false] 4 (0,0)):=by rw [← hgO];exact heap_alloc_new _ _
 have cA':=(cell_of_row _ gO 0 _ _ _ hA).trans (show _=some (Value.bool false) from rfl)
 have fA':=frozen_of_row _ gO 0 _ _ hA
 obtain ⟨y0,hy0⟩:∃ W,(w3.alloc (.cells #[.bool false] 4)).setCell ⟨gO,0,none⟩ (.bool true)=W:=⟨_,rfl⟩
 have q0:Upd [] [] w3 y0:=by rw [← hy0];exact ((Upd.refl _ _).alloc _).setNew (p:=⟨gO,0,none⟩) (Nat.le_of_eq hgO) _
 obtain ⟨ob,hob⟩:∃ o:Bool,o=true:=⟨_,rfl⟩
 have HOB:=Lib.hid hob
 have B0:=Lib.hid (show y0.heap[gO]? =some (.cells #[.bool ob] 4 (0,0)) by
  rw [← hy0,hob]
  exact heap_setCell_same _ gO 0 _ _ _ hA)
 have Q0:=Lib.hid q0
 have HGO:Hid (w3.heap.size≤gO):=Nat.le_of_eq hgO
 clear hob q0 RS h4 hP HPC HPS hn64 hA
 have hmf:∀ (fn:Fn) (first cap:Array Value) (w:World),(Instr.makeFunc fn first cap).run Tryz.prog w=.ok (.func fn first cap) w:=fun _ _ _ _=>rfl
 go_wp2_with (go_at_fn 225)
 clear hy0 hgO c0 h4' cA fA cA' fA' hw3 hgS
 refine (show Calls Tryz.prog 225 #[.int .i64 0,.pointer (some ⟨gS,0,none⟩),.pointer (some ⟨gO,0,none⟩)] y0 (RdN gO ob p0 y0) from pg0 (k:=0) (HK.out _ Q0.out).1 (HK.out _ Q0.out).2.1 (by omega) B0.out HZS.out.1 (T3.out.upd Q0.out)).mono ?_
 rintro e y1 ⟨v0,o0,HO0,HM0,hv0,rfl,hq,hb⟩
 have B1:=Lib.hid hb
 have Q1:=Lib.hid (Q0.out.past hq (fun j hj=>by simp at hj;rw [hj];exact HGO.out))
 have HV0:=Lib.hid hv0
 clear hq hb hv0 Q0 B0
 go_wp2_with (go_at_fn 225)
 refine (show Calls Tryz.prog 225 #[.int .i64 1,.pointer (some ⟨gS,0,none⟩),.pointer (some ⟨gO,0,none⟩)] y1 (RdN gO o0 p1 y1) from pg0 (k:=1) (HK.out _ Q1.out).1 (HK.out _ Q1.out).2.2.1 (by omega) B1.out HZS.out.2.1 (T3.out.upd Q1.out)).mono ?_
 rintro e y2 ⟨v1,o1,HO1,HM1,hv1,rfl,hq,hb⟩
 have B2:=Lib.hid hb
 have Q2:=Lib.hid (Q1.out.past hq (fun j hj=>by simp at hj;rw [hj];exact HGO.out))
 have HV1:=Lib.hid hv1
 clear hq hb hv1 Q1 B1
 go_wp2_with (go_at_fn 225)
 refine (show Calls Tryz.prog 225 #[.int .i64 2,.pointer (some ⟨gS,0,none⟩),.pointer (some ⟨gO,0,none⟩)] y2 (RdN gO o1 p2 y2) from pg0 (k:=2) (HK.out _ Q2.out).1 (HK.out _ Q2.out).2.2.2.1 (by omega) B2.out HZS.out.2.2.1 (T3.out.upd Q2.out)).mono ?_
 rintro e y3 ⟨v2,o2,HO2,HM2,hv2,rfl,hq,hb⟩
 have B3:=Lib.hid hb
 have Q3:=Lib.hid (Q2.out.past hq (fun j hj=>by simp at hj;rw [hj];exact HGO.out))
 have HV2:=Lib.hid hv2
 clear hq hb hv2 Q2 B2
 go_wp2_with (go_at_fn 225)
 refine (show Calls Tryz.prog 225 #[.int .i64 3,.pointer (some ⟨gS,0,none⟩),.pointer (some ⟨gO,0,none⟩)] y3 (RdN gO o2 p3 y3) from pg0 (k:=3) (HK.out _ Q3.out).1 (HK.out _ Q3.out).2.2.2.2 (by omega) B3.out HZS.out.2.2.2 (T3.out.upd Q3.out)).mono ?_
 rintro e y4 ⟨v3,o3,HO3,HM3,hv3,rfl,hq,hb⟩
 have B4:=Lib.hid hb
 have Q4:=Lib.hid (Q3.out.past hq (fun j hj=>by simp at hj;rw [hj];exact HGO.out))
 have HV3:=Lib.hid hv3
 clear hq hb hv3 Q3 B3
 skip
 obtain ⟨PV,hPV⟩:∃ PV:Array Value,PV=#[.int .i64 v0,.int .i64 v1,.int .i64 v2,.int .i64 v3]:=⟨_,rfl⟩
 have HBP:Hid (Tryz.prog.built 40 [(0,.int .i64 v0),(1,.int .i64 v1),(2,.agg #[.int .i64 v2,.int .i64 v3])]=some PV):=by rw [hPV];exact pqf _ _ _ _
 have HIP:Hid ((Tryz.prog.info? 40).map (·.size)=some PV.size):=by rw [hPV];exact pcb _ _ _ _
 have HOP:Hid (PV.all (·.oneCell')=true):=by rw [hPV];show _=_;simp [Value.oneCell']
 have HZP:Hid ((#[.int .i64 0,.int .i64 0,.int .i64 0,.int .i64 0]:Array Value).size=PV.size):=by rw [hPV];rfl
 obtain ⟨w5,Z5,W5,R5,hq5⟩:=paC y4 40 #[.int .i64 0,.int .i64 0,.int .i64 0,.int .i64 0] PV
 obtain ⟨gT,hgT⟩:∃ g,y4.heap.size=g:=⟨_,rfl⟩
 rw [hgT] at Z5 W5 R5
 have U5:=Lib.hid ((U3.out.trans Q4.out).trans hq5)
 have S5:=Lib.hid (paa (paa S3.out Q4.out) hq5)
 have B5:=Lib.hid (paa B4.out hq5)
 have cB:=(cell_of_row _ gO 0 _ _ _ B5.out).trans (show _=some (Value.bool o3) from rfl)
 have HPV:=Lib.hid hPV
 have HTX:=Lib.hid (pfH v0 v1 v2 v3 HV0.out HV1.out HV2.out HV3.out w5 (htab.upd U5.out))
 rw [← hPV] at HTX
 clear hq5 hPV S3 B4 HK
 cases o3 with
 | false =>
  have HNO:Hid (∀ x v c z,¬ pfI (bs s) x v c z):=fun x v c z h=>by
   obtain ⟨e0,e1,e2,e3⟩:=HW.out x v c z h
   have:=HM3.out (HM2.out (HM1.out (HM0.out HOB.out ⟨x,h.1,e0⟩) ⟨v,h.2.1,e1⟩) ⟨c,h.2.2.1,e2⟩) ⟨z,h.2.2.2.1,e3⟩
   cases this
  go_wp2_with (first | (refine wpList_store_rowAs rfl 40 _ _ rfl gT PV rfl rfl _ _ Z5.out HIP.out HZP.out HOP.out w5 W5.out ?_) | (refine wpList_buildTo rfl 40 #[] rfl _ rfl DZ (Eq.trans (congrArg (fun z=>Tryz.prog.built 40 z) (by kernel_rfl)) HB0.out) ?_) | (refine wpList_store_row rfl 40 _ _ rfl gR DZ rfl rfl _ _ S5.out HI0.out rfl HOZ.out ?_) | (refine wpList_buildTo rfl 40 _ rfl _ rfl PV (Eq.trans (congrArg (fun z=>Tryz.prog.built 40 z) (by kernel_rfl)) HBP.out) ?_))
  refine bodyPost_ret (results_row_tmp rfl _ _ gR _ DZ _ _ rfl (setRow_heap _ _ _ _ _ _ S5.out) Tryz.underlying40 rfl HI0.out) rfl ?_
  rw [HDZ.out]
  exact ptNo HNO.out (U5.out.setRowNew HG.out _)
 | true =>
  have HAT:Hid (Lib.atoiAll (bs p0)=.ok v0∧Lib.atoiAll (bs p1)=.ok v1∧Lib.atoiAll (bs p2)=.ok v2∧Lib.atoiAll (bs p3)=.ok v3) :=
   ⟨(HO0.out (HO1.out (HO2.out (HO3.out rfl).1).1).1).2,(HO1.out (HO2.out (HO3.out rfl).1).1).2,(HO2.out (HO3.out rfl).1).2,(HO3.out rfl).2⟩
  have HUQ:Hid (∀ x v c z,pfI (bs s) x v c z→x=v0∧v=v1∧c=v2∧z=v3):=fun x v c z h=>by
   obtain ⟨e0,e1,e2,e3⟩:=HW.out x v c z h
   obtain ⟨a0,a1,a2,a3⟩:=HAT.out
   rw [e0,paH _ h.1] at a0
   rw [e1,paH _ h.2.1] at a1
   rw [e2,paH _ h.2.2.1] at a2
   rw [e3,paH _ h.2.2.2.1] at a3
   injection a0 with a0
   injection a1 with a1
   injection a2 with a2
   injection a3 with a3
   exact ⟨a0,a1,a2,a3⟩
  go_wp2_with (first | (refine wpList_buildTo rfl 40 _ rfl _ rfl PV (Eq.trans (congrArg (fun z=>Tryz.prog.built 40 z) (by kernel_rfl)) HBP.out) ?_) | (refine wpList_store_rowAs rfl 40 _ _ rfl gT PV rfl rfl _ _ Z5.out HIP.out HZP.out HOP.out w5 W5.out ?_) | (refine peA (by rfl) 40 _ rfl gT rfl _ PV _ _ R5.out Tryz.underlying40 rfl HIP.out ?_))
  refine HTX.out.mono ?_
  rintro e w6 ⟨t,HT,_,rfl,hq⟩
  have U6:=Lib.hid (U5.out.trans hq)
  have S6:=Lib.hid (paa S5.out hq)
  have R6:=Lib.hid (paa R5.out hq)
  clear hq HTX U5 S5 R5
  by_cases hts:t=s
  case neg =>
   have HNO:Hid (∀ x v c z,¬ pfI (bs s) x v c z):=fun x v c z h=>by
    obtain ⟨rfl,rfl,rfl,rfl⟩:=HUQ.out x v c z h
    exact hts (paM (HT.out.trans h.2.2.2.2.symm))
   have g1:(t.toList == s.toList)=false:=by rw [← Bool.not_eq_true];exact fun h=>hts (paM (pbA.1 h))
   clear hts
   go_wp2_with (first | (refine wpList_buildTo rfl 40 #[] rfl _ rfl DZ (Eq.trans (congrArg (fun z=>Tryz.prog.built 40 z) (by kernel_rfl)) HB0.out) ?_) | (refine wpList_store_row rfl 40 _ _ rfl gR DZ rfl rfl _ _ S6.out HI0.out rfl HOZ.out ?_))
   refine bodyPost_ret (results_row_tmp rfl _ _ gR _ DZ _ _ rfl (setRow_heap _ _ _ _ _ _ S6.out) Tryz.underlying40 rfl HI0.out) rfl ?_
   rw [HDZ.out]
   exact ptNo HNO.out (U6.out.setRowNew HG.out _)
  have HIS:Hid (pfI (bs s) v0 v1 v2 v3):=⟨HV0.out,HV1.out,HV2.out,HV3.out,by rw [← hts];exact HT.out⟩
  have g1:(t.toList == s.toList)=true:=pbA.2 (by rw [hts])
  obtain ⟨wF,hwF⟩:∃ W,w6.setRow gR PV=W:=⟨_,rfl⟩
  have RF:Hid (wF.heap[gR]? =some (.cells PV 40 (0,0))):=by show _=_;rw [← hwF];exact setRow_heap _ _ _ _ _ _ S6.out
  have UF:Hid (Upd [] [] w wF):=by show Upd _ _ _ _;rw [← hwF];exact U6.out.setRowNew HG.out _
  have HSV:Hid (DZ.size=PV.size):=by show _=_;rw [HDZ.out,HPV.out];rfl
  have HWF:=Lib.hid hwF
  clear hts hwF
  go_wp2_with (first | (refine wpList_load_row rfl 40 _ rfl gT rfl _ PV _ _ R6.out Tryz.underlying40 rfl HIP.out ?_) | (refine wpList_store_rowAs rfl 40 _ _ rfl gR PV rfl rfl _ _ S6.out HIP.out HSV.out HOP.out wF HWF.out ?_))
  refine bodyPost_ret (results_row_tmp rfl _ _ gR _ PV _ _ rfl RF.out Tryz.underlying40 rfl HIP.out) rfl ?_
  rw [HPV.out]
  exact ⟨v0,v1,v2,v3,true,.inl ⟨rfl,HIS.out⟩,rfl,UF.out⟩
end Go.Proofs.YtheobkejohifaaaGreatDoor
