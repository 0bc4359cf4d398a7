/- court.Contradict at any two texts and what follows. -/
import Derived.Test.YtkhjolbbpdaplaaGreatDoorHBB
namespace Go.Proofs.YtkhjolbbpdaplaaGreatDoor
set_option maxHeartbeats 8000000
open Go.RowKit Go.Proofs.Tryz
set_option maxRecDepth 100000
def ConR (a b:List UInt8) (c:Bool):Prop :=
 (a=b->c=false)/\(a≠b ->
  (∀ x y,pbk a x->pbk b y->(c=true ↔ (x.k=y.k/\x.h=y.h/\x.v=y.v))) /\
  (¬ ((∃ x,pbk a x)/\∃ y,pbk b y) ->
   (∀ e f,pat (preE ++ a) e->pat (preE ++ b) f->(c=true ↔ e.q=f.q)) /\
   (¬ ((∃ e,pat (preE ++ a) e)/\∃ f,pat (preE ++ b) f)->c=false)))
def puy (a b:List UInt8) (w:World) (e:Ending) (w':World):Prop:=∃ c:Bool,Hid (ConR a b c)/\e=.returned (.bool c)/\Upd [] [] w w'
theorem BalR.none {l y} (h:BalR l y false):∀ b,¬ pbk l b:=by
 rcases h with ⟨h,_⟩ | ⟨_,h⟩
 · cases h
 · exact h
theorem BalR.key {l y} (h:BalR l y true):∃ b,pbk l b/\bs y=b.key:=by
 rcases h with ⟨_,h⟩ | ⟨h,_⟩
 · exact h
 · cases h
theorem ps2 (a b) (ha:a.size<=900000000) (hb:b.size<=900000000) (w) (au:Tabs w):Calls prog 91 #[.string a,.string b] w (puy (bs a) (bs b) w):=by
 by_cases ai:a=b
 · have m:Hid (ConR (bs a) (bs b) false):=⟨fun _=>rfl,fun n=>absurd (by rw [ai]) n⟩
   have g1:(a.toList == b.toList)=true:=by rw [ai];exact beq_self_eq_true _
   clear ai;go_in;go_wp2;go_ret;exact ⟨false,m,rfl,Upd.refl _ _⟩
 have av:Hid (bs a≠bs b):=fun e=>ai (paT e);have g1:(a.toList == b.toList)=false:=by rw [<-yK];exact fun h=>ai (paT (pbM.1 h))
 have aD:=ah (pp5 a (by omega) w au);have aG:=ah (fun W (u:Uq w W)=>pp5 b (by omega) W (au.upd u));have aa:=ah (fun W (u:Uq w W)=>pja a ha W (au.upd u));have ad:=ah (fun W (u:Uq w W)=>pja b hb W (au.upd u));have aw:Hid ((preE ++ bs a).length<=1000000000):=by show _<=_;rw [xr,pac];have:preE.length=4:=rfl;omega
 have ax:Hid ((preE ++ bs b).length<=1000000000):=by show _<=_;rw [xr,pac];have:preE.length=4:=rfl;omega
 obtain ⟨H,aA⟩:=ae (preE ++ bs a);obtain ⟨J,aC⟩:=ae (preE ++ bs b);rw [aA] at aa aw;rw [aC] at ad ax;have aB:=ah aA;have ay:=ah aC;clear aA aC ha hb ai;go_in;go_wp2_with fail;refine aD.out.mono ?_;rintro e w1 ⟨y1,aK,Y1,rfl,hq⟩;have U1:=ah hq;clear hq aD;go_wp2_with fail;refine (aG.out w1 U1.out).mono ?_;rintro e w2 ⟨y2,aF,Y2,rfl,hq⟩;have U2:=ah (U1.out.trans hq);clear hq aG U1
 cases aK
 · cases aF
   · skip
     have an:Hid (¬ ((∃ x,pbk (bs a) x)/\∃ y,pbk (bs b) y)):=fun h=>by obtain ⟨⟨x,G⟩,_⟩:=h;exact Y1.out.none x G
     clear Y1 Y2;go_wp2_with fail;refine (aa.out w2 U2.out).mono ?_;rintro e w3 ⟨EV,b1,D,rfl,hq⟩;have aj:=ah D.out.info.1;have ak:=ah D.out.info.2.1;have al:Hid ((zZ0:Array Value).size=EV.size):=by show _=_;rw [paH];exact D.out.info.2.2
     obtain ⟨B,aq,ab,S1,T1⟩:=D.out.seq aw.out;have Q:=ah (xf S1 T1);have C1:=ah ab;have U3:=ah (U2.out.trans hq);clear hq aa U2 S1 T1 ab aq;obtain ⟨w4,X,Y,P,af⟩:=paz w3 71 zZ0 EV;obtain ⟨R,ap⟩:=ae (w3.heap.size);rw [ap] at X Y P;have U4:=ah (U3.out.trans af);have am:R<w4.heap.size:=paf P.out;clear af U3;go_wp2_with (refine bS X aj al ak Y ?_)
     refine (ad.out w4 U4.out).mono ?_;rintro e Z ⟨EW,b2,A,rfl,hq⟩;have K:=ah A.out.info.1;have M:=ah A.out.info.2.1;have N:Hid ((zZ0:Array Value).size=EW.size):=by show _=_;rw [paH];exact A.out.info.2.2
     obtain ⟨F,ao,ac,S2,T2⟩:=A.out.seq ax.out;have S:=ah (xf S2 T2);have C2:=ah ac;have R5:=ah (paa P.out hq);have U5:=ah (U4.out.trans hq);have aH:R<Z.heap.size:=xA am hq.size;clear hq ad U4 P X Y S2 T2 ac ao;obtain ⟨w6,C,E,U,T⟩:=paz Z 71 zZ0 EW;obtain ⟨gB,ar⟩:=ae (Z.heap.size);rw [ar] at C E U;have cA:w6.cell? ⟨R,0,none⟩=some (.int .i64 B):=(xa _ R 0 _ _ _ (paa R5.out T)).trans C1.out;have cB:w6.cell? ⟨gB,0,none⟩=some (.int .i64 F):=(xa _ gB 0 _ _ _ U.out).trans C2.out;have O:=ah (U5.out.trans T);have j:Hid (∀ c:Bool,(∀ e f,pat H e->pat J f->(c=true ↔ e.q=f.q))->(¬ ((∃ e,pat H e)/\∃ f,pat J f)->c=false)->ConR (bs a) (bs b) c):=by
      intro c k1 k2;refine ⟨fun e=>absurd e av.out,fun _=>⟨fun x y G hy=>absurd ⟨⟨x,G⟩,y,hy⟩ an.out,fun _=>?_⟩⟩;rw [aB.out,ay.out];exact ⟨k1,k2⟩
     have t:Hid (b1=false->∀ e,¬ pat H e):=fun g e d=>by have:=(Q.out.1 e d).1;rw [g] at this;cases this
     have z:Hid (b2=false->∀ e,¬ pat J e):=fun g e d=>by have:=(S.out.1 e d).1;rw [g] at this;cases this
     have r:Hid (b1=true->b2=true->(∃ e,pat H e)/\∃ f,pat J f):=by
      intro h1 h2;refine ⟨yf fun n=>?_,yf fun n=>?_⟩
      · have:=Q.out.2 (fun e d=>n ⟨e,d⟩);rw [h1] at this;cases this
      · have:=S.out.2 (fun e d=>n ⟨e,d⟩);rw [h2] at this;cases this
     have p:Hid (∀ e f,pat H e->pat J f->B=e.q/\F=f.q):=fun e f d g=>⟨(Q.out.1 e d).2,(S.out.1 f g).2⟩
     clear T U5 R5 U C1 C2 D A Q S
     cases b1
     · have m:Hid (ConR (bs a) (bs b) false):=j.out false (fun e f d _=>absurd d (t.out rfl e)) (fun _=>rfl);clear j t z r p;go_wp2_with (refine bS C K N M E ?_)
       go_ret;exact ⟨false,m,rfl,O.out⟩
     cases b2
     · have m:Hid (ConR (bs a) (bs b) false):=j.out false (fun e f _ g=>absurd g (z.out rfl f)) (fun _=>rfl);clear j t z r p;go_wp2_with (refine bS C K N M E ?_)
       go_ret;exact ⟨false,m,rfl,O.out⟩
     by_cases o:B=F
     · have m:Hid (ConR (bs a) (bs b) true):=j.out true (fun e f d g=>⟨fun _=>by have:=p.out e f d g;rw [<-this.1,<-this.2];exact o,fun _=>rfl⟩) (fun n=>absurd (r.out rfl rfl) n);have g2:(B == F)=true:=by rw [yW];exact o
       clear j t z r p o;go_wp2_with (refine bS C K N M E ?_)
       go_ret;exact ⟨true,m,rfl,O.out⟩
     have m:Hid (ConR (bs a) (bs b) false):=j.out false (fun e f d g=>⟨fun h=>(by cases h),fun h=>by have:=p.out e f d g;exact absurd (by rw [this.1,this.2];exact h) o⟩) (fun _=>rfl);have g2:(B == F)=false:=by rw [xm];exact o
     clear j t z r p o;go_wp2_with (refine bS C K N M E ?_)
     go_ret;exact ⟨false,m,rfl,O.out⟩
   · skip
     have an:Hid (¬ ((∃ x,pbk (bs a) x)/\∃ y,pbk (bs b) y)):=fun h=>by obtain ⟨⟨x,G⟩,_⟩:=h;exact Y1.out.none x G
     clear Y1 Y2;go_wp2_with fail;refine (aa.out w2 U2.out).mono ?_;rintro e w3 ⟨EV,b1,D,rfl,hq⟩;have aj:=ah D.out.info.1;have ak:=ah D.out.info.2.1;have al:Hid ((zZ0:Array Value).size=EV.size):=by show _=_;rw [paH];exact D.out.info.2.2
     obtain ⟨B,aq,ab,S1,T1⟩:=D.out.seq aw.out;have Q:=ah (xf S1 T1);have C1:=ah ab;have U3:=ah (U2.out.trans hq);clear hq aa U2 S1 T1 ab aq;obtain ⟨w4,X,Y,P,af⟩:=paz w3 71 zZ0 EV;obtain ⟨R,ap⟩:=ae (w3.heap.size);rw [ap] at X Y P;have U4:=ah (U3.out.trans af);have am:R<w4.heap.size:=paf P.out;clear af U3;go_wp2_with (refine bS X aj al ak Y ?_)
     refine (ad.out w4 U4.out).mono ?_;rintro e Z ⟨EW,b2,A,rfl,hq⟩;have K:=ah A.out.info.1;have M:=ah A.out.info.2.1;have N:Hid ((zZ0:Array Value).size=EW.size):=by show _=_;rw [paH];exact A.out.info.2.2
     obtain ⟨F,ao,ac,S2,T2⟩:=A.out.seq ax.out;have S:=ah (xf S2 T2);have C2:=ah ac;have R5:=ah (paa P.out hq);have U5:=ah (U4.out.trans hq);have aH:R<Z.heap.size:=xA am hq.size;clear hq ad U4 P X Y S2 T2 ac ao;obtain ⟨w6,C,E,U,T⟩:=paz Z 71 zZ0 EW;obtain ⟨gB,ar⟩:=ae (Z.heap.size);rw [ar] at C E U;have cA:w6.cell? ⟨R,0,none⟩=some (.int .i64 B):=(xa _ R 0 _ _ _ (paa R5.out T)).trans C1.out;have cB:w6.cell? ⟨gB,0,none⟩=some (.int .i64 F):=(xa _ gB 0 _ _ _ U.out).trans C2.out;have O:=ah (U5.out.trans T);have j:Hid (∀ c:Bool,(∀ e f,pat H e->pat J f->(c=true ↔ e.q=f.q))->(¬ ((∃ e,pat H e)/\∃ f,pat J f)->c=false)->ConR (bs a) (bs b) c):=by
      intro c k1 k2;refine ⟨fun e=>absurd e av.out,fun _=>⟨fun x y G hy=>absurd ⟨⟨x,G⟩,y,hy⟩ an.out,fun _=>?_⟩⟩;rw [aB.out,ay.out];exact ⟨k1,k2⟩
     have t:Hid (b1=false->∀ e,¬ pat H e):=fun g e d=>by have:=(Q.out.1 e d).1;rw [g] at this;cases this
     have z:Hid (b2=false->∀ e,¬ pat J e):=fun g e d=>by have:=(S.out.1 e d).1;rw [g] at this;cases this
     have r:Hid (b1=true->b2=true->(∃ e,pat H e)/\∃ f,pat J f):=by
      intro h1 h2;refine ⟨yf fun n=>?_,yf fun n=>?_⟩
      · have:=Q.out.2 (fun e d=>n ⟨e,d⟩);rw [h1] at this;cases this
      · have:=S.out.2 (fun e d=>n ⟨e,d⟩);rw [h2] at this;cases this
     have p:Hid (∀ e f,pat H e->pat J f->B=e.q/\F=f.q):=fun e f d g=>⟨(Q.out.1 e d).2,(S.out.1 f g).2⟩
     clear T U5 R5 U C1 C2 D A Q S
     cases b1
     · have m:Hid (ConR (bs a) (bs b) false):=j.out false (fun e f d _=>absurd d (t.out rfl e)) (fun _=>rfl);clear j t z r p;go_wp2_with (refine bS C K N M E ?_)
       go_ret;exact ⟨false,m,rfl,O.out⟩
     cases b2
     · have m:Hid (ConR (bs a) (bs b) false):=j.out false (fun e f _ g=>absurd g (z.out rfl f)) (fun _=>rfl);clear j t z r p;go_wp2_with (refine bS C K N M E ?_)
       go_ret;exact ⟨false,m,rfl,O.out⟩
     by_cases o:B=F
     · have m:Hid (ConR (bs a) (bs b) true):=j.out true (fun e f d g=>⟨fun _=>by have:=p.out e f d g;rw [<-this.1,<-this.2];exact o,fun _=>rfl⟩) (fun n=>absurd (r.out rfl rfl) n);have g2:(B == F)=true:=by rw [yW];exact o
       clear j t z r p o;go_wp2_with (refine bS C K N M E ?_)
       go_ret;exact ⟨true,m,rfl,O.out⟩
     have m:Hid (ConR (bs a) (bs b) false):=j.out false (fun e f d g=>⟨fun h=>(by cases h),fun h=>by have:=p.out e f d g;exact absurd (by rw [this.1,this.2];exact h) o⟩) (fun _=>rfl);have g2:(B == F)=false:=by rw [xm];exact o
     clear j t z r p o;go_wp2_with (refine bS C K N M E ?_)
     go_ret;exact ⟨false,m,rfl,O.out⟩
 cases aF
 · skip
   have an:Hid (¬ ((∃ x,pbk (bs a) x)/\∃ y,pbk (bs b) y)):=fun h=>by obtain ⟨_,x,G⟩:=h;exact Y2.out.none x G
   clear Y1 Y2;go_wp2_with fail;refine (aa.out w2 U2.out).mono ?_;rintro e w3 ⟨EV,b1,D,rfl,hq⟩;have aj:=ah D.out.info.1;have ak:=ah D.out.info.2.1;have al:Hid ((zZ0:Array Value).size=EV.size):=by show _=_;rw [paH];exact D.out.info.2.2
   obtain ⟨B,aq,ab,S1,T1⟩:=D.out.seq aw.out;have Q:=ah (xf S1 T1);have C1:=ah ab;have U3:=ah (U2.out.trans hq);clear hq aa U2 S1 T1 ab aq;obtain ⟨w4,X,Y,P,af⟩:=paz w3 71 zZ0 EV;obtain ⟨R,ap⟩:=ae (w3.heap.size);rw [ap] at X Y P;have U4:=ah (U3.out.trans af);have am:R<w4.heap.size:=paf P.out;clear af U3;go_wp2_with (refine bS X aj al ak Y ?_)
   refine (ad.out w4 U4.out).mono ?_;rintro e Z ⟨EW,b2,A,rfl,hq⟩;have K:=ah A.out.info.1;have M:=ah A.out.info.2.1;have N:Hid ((zZ0:Array Value).size=EW.size):=by show _=_;rw [paH];exact A.out.info.2.2
   obtain ⟨F,ao,ac,S2,T2⟩:=A.out.seq ax.out;have S:=ah (xf S2 T2);have C2:=ah ac;have R5:=ah (paa P.out hq);have U5:=ah (U4.out.trans hq);have aH:R<Z.heap.size:=xA am hq.size;clear hq ad U4 P X Y S2 T2 ac ao;obtain ⟨w6,C,E,U,T⟩:=paz Z 71 zZ0 EW;obtain ⟨gB,ar⟩:=ae (Z.heap.size);rw [ar] at C E U;have cA:w6.cell? ⟨R,0,none⟩=some (.int .i64 B):=(xa _ R 0 _ _ _ (paa R5.out T)).trans C1.out;have cB:w6.cell? ⟨gB,0,none⟩=some (.int .i64 F):=(xa _ gB 0 _ _ _ U.out).trans C2.out;have O:=ah (U5.out.trans T);have j:Hid (∀ c:Bool,(∀ e f,pat H e->pat J f->(c=true ↔ e.q=f.q))->(¬ ((∃ e,pat H e)/\∃ f,pat J f)->c=false)->ConR (bs a) (bs b) c):=by
    intro c k1 k2;refine ⟨fun e=>absurd e av.out,fun _=>⟨fun x y G hy=>absurd ⟨⟨x,G⟩,y,hy⟩ an.out,fun _=>?_⟩⟩;rw [aB.out,ay.out];exact ⟨k1,k2⟩
   have t:Hid (b1=false->∀ e,¬ pat H e):=fun g e d=>by have:=(Q.out.1 e d).1;rw [g] at this;cases this
   have z:Hid (b2=false->∀ e,¬ pat J e):=fun g e d=>by have:=(S.out.1 e d).1;rw [g] at this;cases this
   have r:Hid (b1=true->b2=true->(∃ e,pat H e)/\∃ f,pat J f):=by
    intro h1 h2;refine ⟨yf fun n=>?_,yf fun n=>?_⟩
    · have:=Q.out.2 (fun e d=>n ⟨e,d⟩);rw [h1] at this;cases this
    · have:=S.out.2 (fun e d=>n ⟨e,d⟩);rw [h2] at this;cases this
   have p:Hid (∀ e f,pat H e->pat J f->B=e.q/\F=f.q):=fun e f d g=>⟨(Q.out.1 e d).2,(S.out.1 f g).2⟩
   clear T U5 R5 U C1 C2 D A Q S
   cases b1
   · have m:Hid (ConR (bs a) (bs b) false):=j.out false (fun e f d _=>absurd d (t.out rfl e)) (fun _=>rfl);clear j t z r p;go_wp2_with (refine bS C K N M E ?_)
     go_ret;exact ⟨false,m,rfl,O.out⟩
   cases b2
   · have m:Hid (ConR (bs a) (bs b) false):=j.out false (fun e f _ g=>absurd g (z.out rfl f)) (fun _=>rfl);clear j t z r p;go_wp2_with (refine bS C K N M E ?_)
     go_ret;exact ⟨false,m,rfl,O.out⟩
   by_cases o:B=F
   · have m:Hid (ConR (bs a) (bs b) true):=j.out true (fun e f d g=>⟨fun _=>by have:=p.out e f d g;rw [<-this.1,<-this.2];exact o,fun _=>rfl⟩) (fun n=>absurd (r.out rfl rfl) n);have g2:(B == F)=true:=by rw [yW];exact o
     clear j t z r p o;go_wp2_with (refine bS C K N M E ?_)
     go_ret;exact ⟨true,m,rfl,O.out⟩
   have m:Hid (ConR (bs a) (bs b) false):=j.out false (fun e f d g=>⟨fun h=>(by cases h),fun h=>by have:=p.out e f d g;exact absurd (by rw [this.1,this.2];exact h) o⟩) (fun _=>rfl);have g2:(B == F)=false:=by rw [xm];exact o
   clear j t z r p o;go_wp2_with (refine bS C K N M E ?_)
   go_ret;exact ⟨false,m,rfl,O.out⟩
 obtain ⟨x,G,kx⟩:=Y1.out.key;obtain ⟨y,hy,ky⟩:=Y2.out.key;have aE:Hid (y1=y2 ↔ (x.k=y.k/\x.h=y.h/\x.v=y.v)):=by
  show _ ↔ _;rw [<-psQ G.1 hy.1,<-kx,<-ky];exact ⟨fun e=>by rw [e],fun e=>paT e⟩
 have j:Hid (∀ c:Bool,(c=true ↔ y1=y2)->ConR (bs a) (bs b) c):=by
  intro c hc;refine ⟨fun e=>absurd e av.out,fun _=>⟨fun x' y' aJ aI=>?_,fun n=>absurd ⟨⟨x,G⟩,y,hy⟩ n⟩⟩;rw [pjx aJ G,pjx aI hy];exact hc.trans aE.out
 clear G hy kx ky aE Y1 Y2 aa ad;by_cases ag:y1=y2
 · have m:Hid (ConR (bs a) (bs b) true):=j.out true ⟨fun _=>ag,fun _=>rfl⟩;have g2:(y1.toList == y2.toList)=true:=pbM.2 (by rw [ag]);clear j ag;go_wp2;go_ret;exact ⟨true,m,rfl,U2.out⟩
 have m:Hid (ConR (bs a) (bs b) false):=j.out false ⟨fun h=>(by cases h),fun h=>absurd h ag⟩;have g2:(y1.toList == y2.toList)=false:=by rw [<-yK];exact fun h=>ag (paT (pbM.1 h))
 clear j ag;go_wp2;go_ret;exact ⟨false,m,rfl,U2.out⟩
theorem pp9 (w):(Instr.makeSlice 123 (.int .i64 4) (.int .i64 4)).run prog w=.ok (.slice (some ⟨w.heap.size,0,none⟩) 4 4) (w.alloc (.cells #[.string ⟨#[]⟩,.string ⟨#[]⟩,.string ⟨#[]⟩,.string ⟨#[]⟩] 9)):=by
 have h:(prog.info? 9).map (fun i=>(i.zero,i.size,i.bytes))=some (some (.string ⟨#[]⟩),1,16):=by kernel_rfl
 obtain ⟨e,c,a⟩:=yp.1 h;simp only [yY] at a;have:=run_make (P:=prog) w 123 9 e (.string ⟨#[]⟩) underlying123 c a.1 .i64 .i64 4 4 (by omega) (by omega) (by rw [a.2.2];omega) (by omega);have d:madeCells (Value.string ⟨#[]⟩).cells (Int.toNat 4 * 1)=#[.string ⟨#[]⟩,.string ⟨#[]⟩,.string ⟨#[]⟩,.string ⟨#[]⟩]:=by kernel_rfl
 rw [this,a.2.1,d];rfl
theorem pgV (x v c z) (h1:pab x) (h2:pab v) (h3:pab c) (h4:pab z) (w) (B:Tabs w):Calls prog 256 #[.agg #[.int .i64 x,.int .i64 v,.int .i64 c,.int .i64 z]] w (MkS (pfr x v c z) w):=by
 obtain ⟨g,hg⟩:=ae (w.heap.size);obtain ⟨w0,ab⟩:=ae (w.alloc (.cells #[x,v,c,z] 86));have t:=aW hg ab;have u0:=aU ab;have d0:=xa _ g 0 _ _ _ t;have d1:=xa _ g 1 _ _ _ t;have d2:=xa _ g 2 _ _ _ t;have d3:=xa _ g 3 _ _ _ t;obtain ⟨d,al⟩:=ae (w0.heap.size);obtain ⟨Q,ad⟩:=ae (w0.alloc (.cells #[x,v,c,z] 3));have r1:=ah (aW al ad);have Y:=aU ad;obtain ⟨gP,aa⟩:=ae (Q.heap.size);obtain ⟨y0,P⟩:=ae (Q.alloc (.cells #[.string ⟨#[]⟩,.string ⟨#[]⟩,.string ⟨#[]⟩,.string ⟨#[]⟩] 9));have q0:=ah (aW aa P);have S:=aU P;have n0:=ah (paa r1.out S);have lw:w.heap.size<=gP:=by have:=u0.size;have:=Y.size;omega
 have ac:d<gP:=by have:=paf r1.out;omega
 have q:=ah (xf lw ac);have U0:=ah ((u0.trans Y).trans S);have n:=ah (xf h1 (xf h2 (xf h3 h4)));clear u0 Y S t r1 lw ac h1 h2 h3 h4;have af:=pp9 Q;rw [P,aa] at af;go_in;go_wp2_with fail;refine yt 5 ?_;rw [xK];have c0:y0.cell? ⟨d,0,none⟩=some (.int .i64 x):=xa _ d 0 _ _ _ n0.out;go_wp2_with fail;refine (paA x y0 n.out.1 (B.upd U0.out)).mono ?_;rintro e z0 ⟨k,ai,_,rfl,hq⟩;have J:=paa q0.out hq;have d0:z0.cell? ⟨gP,0,none⟩=some (.string ⟨#[]⟩):=xa _ gP 0 _ _ _ J;have f0:=xp _ gP 0 _ _ J;obtain ⟨u,F⟩:=ae (z0.setCell ⟨gP,0,none⟩ (.string k));have q1:Hid (u.heap[gP]? =some (.cells #[.string k,.string ⟨#[]⟩,.string ⟨#[]⟩,.string ⟨#[]⟩] 9 (0,0))):=by
  show _=_;rw [<-F];exact xg z0 gP 0 _ _ _ J
 have U:Hid (u.heap[d]? =some (.cells #[x,v,c,z] 3 (0,0))):=by
  show _=_;rw [<-F,xE _ _ _ _ (show d≠gP by have:=q.out.2;omega)];exact paa n0.out hq
 have X:Hid (Uq w u):=by
  show Upd _ _ _ _;rw [<-F];exact (U0.out.trans hq).setNew (p:=⟨gP,0,none⟩) q.out.1 _
 clear hq J c0 U0 q0 n0;go_wp2_with fail;clear d0 f0 F;rw [xK];have c1:u.cell? ⟨d,1,none⟩=some (.int .i64 v):=xa _ d 1 _ _ _ U.out;go_wp2_with fail;refine (paA v u n.out.2.1 (B.upd X.out)).mono ?_;rintro e W ⟨m,ak,_,rfl,hq⟩;have M:=paa q1.out hq;have d1:W.cell? ⟨gP,1,none⟩=some (.string ⟨#[]⟩):=xa _ gP 1 _ _ _ M;have f1:=xp _ gP 1 _ _ M;obtain ⟨A,E⟩:=ae (W.setCell ⟨gP,1,none⟩ (.string m));have q2:Hid (A.heap[gP]? =some (.cells #[.string k,.string m,.string ⟨#[]⟩,.string ⟨#[]⟩] 9 (0,0))):=by
  show _=_;rw [<-E];exact xg W gP 1 _ _ _ M
 have n2:Hid (A.heap[d]? =some (.cells #[x,v,c,z] 3 (0,0))):=by
  show _=_;rw [<-E,xE _ _ _ _ (show d≠gP by have:=q.out.2;omega)];exact paa U.out hq
 have U2:Hid (Uq w A):=by
  show Upd _ _ _ _;rw [<-E];exact (X.out.trans hq).setNew (p:=⟨gP,1,none⟩) q.out.1 _
 clear hq M c1 X q1 U;go_wp2_with fail;clear d1 f1 E;rw [xK];have c2:A.cell? ⟨d,2,none⟩=some (.int .i64 c):=xa _ d 2 _ _ _ n2.out;go_wp2_with fail;refine (paA c A n.out.2.2.1 (B.upd U2.out)).mono ?_;rintro e z2 ⟨o,aj,_,rfl,hq⟩;have K:=paa q2.out hq;have d2:z2.cell? ⟨gP,2,none⟩=some (.string ⟨#[]⟩):=xa _ gP 2 _ _ _ K;have f2:=xp _ gP 2 _ _ K;obtain ⟨y,D⟩:=ae (z2.setCell ⟨gP,2,none⟩ (.string o));have q3:Hid (y.heap[gP]? =some (.cells #[.string k,.string m,.string o,.string ⟨#[]⟩] 9 (0,0))):=by
  show _=_;rw [<-D];exact xg z2 gP 2 _ _ _ K
 have Z:Hid (y.heap[d]? =some (.cells #[x,v,c,z] 3 (0,0))):=by
  show _=_;rw [<-D,xE _ _ _ _ (show d≠gP by have:=q.out.2;omega)];exact paa n2.out hq
 have R:Hid (Uq w y):=by
  show Upd _ _ _ _;rw [<-D];exact (U2.out.trans hq).setNew (p:=⟨gP,2,none⟩) q.out.1 _
 clear hq K c2 U2 q2 n2;go_wp2_with fail;clear d2 f2 D;rw [xK];have c3:y.cell? ⟨d,3,none⟩=some (.int .i64 z):=xa _ d 3 _ _ _ Z.out;go_wp2_with fail;refine (paA z y n.out.2.2.2 (B.upd R.out)).mono ?_;rintro e z3 ⟨r,ag,_,rfl,hq⟩;have H:=paa q3.out hq;have d3:z3.cell? ⟨gP,3,none⟩=some (.string ⟨#[]⟩):=xa _ gP 3 _ _ _ H;have f3:=xp _ gP 3 _ _ H;obtain ⟨G,C⟩:=ae (z3.setCell ⟨gP,3,none⟩ (.string r));have q4:Hid (G.heap[gP]? =some (.cells #[.string k,.string m,.string o,.string r] 9 (0,0))):=by
  show _=_;rw [<-C];exact xg z3 gP 3 _ _ _ H
 have n4:Hid (G.heap[d]? =some (.cells #[x,v,c,z] 3 (0,0))):=by
  show _=_;rw [<-C,xE _ _ _ _ (show d≠gP by have:=q.out.2;omega)];exact paa Z.out hq
 have U4:Hid (Uq w G):=by
  show Upd _ _ _ _;rw [<-C];exact (R.out.trans hq).setNew (p:=⟨gP,3,none⟩) q.out.1 _
 clear hq H c3 R q3 Z;go_wp2_with fail;clear d3 f3 C;rw [xK];go_wp2_with fail;have O:pf1 G gP [k,m,o,r]:=⟨paf q4.out,fun j a f=>by
  rw [xa _ _ _ _ _ _ q4.out,yB]
  match j,f with
  | 0,f=>simp at f;subst f;rfl
  | 1,f=>simp at f;subst f;rfl
  | 2,f=>simp at f;subst f;rfl
  | 3,f=>simp at f;subst f;rfl⟩
 have N:Lib.join (([k,m,o,r]:List ByteArray).map bs) [32]=pfr x v c z:=by
  show Lib.join [bs k,bs m,bs o,bs r] [32]=_;rw [ai.out,ak.out,aj.out,ag.out];rfl
 have f:=Tryz.strings_Join gP 0 4 [k,m,o,r] ⟨#[32]⟩ _ O.2 O.1 (by simp) (by simp) (by
  show (Lib.join (_) [32]).length<=_;have e:=xU List.length N;have h:=pjy x v c z n.out.1 n.out.2.1 n.out.2.2.1 n.out.2.2.2;exact xB (xJ e) (by omega))
 refine f.mono ?_;rintro e w9 ⟨rfl,hb⟩;have hu:=paE hb;obtain ⟨T,hT⟩:∃ T:ByteArray,T=⟨(Lib.join (([k,m,o,r]:List ByteArray).map (·.data.toList)) (⟨#[32]⟩:ByteArray).data.toList).toArray⟩:=⟨_,rfl⟩
 rw [<-hT];have HB:Hid (bs T=pfr x v c z):=by
  show _=_;rw [hT,pcM];exact N
 have HU:=ah (U4.out.trans hu);clear f O N hb hu hT;go_wp2;go_ret;exact ⟨T,HB,by rw [<-HB.out,pac];exact xj _,rfl,HU.out⟩
def pgW (l:List UInt8) (x v c z:Int):Prop:=pab x/\pab v/\pab c/\pab z/\l=pfr x v c z
def ptW (l:List UInt8) (w:World) (e:Ending) (w':World):Prop :=
 ∃ (x v c z:Int) (ok:Bool),Hid ((ok=true/\pgW l x v c z)\/(ok=false/\(∀ x v c z,¬ pgW l x v c z)/\x=0/\v=0/\c=0/\z=0))/\e=.returned (.tuple #[.agg #[x,v,c,z],.bool ok])/\Upd [] [] w w'
theorem ptNo {l w W} (a:∀ x v c z,¬ pgW l x v c z) (u:Uq w W):ptW l w (.returned (.tuple #[.agg ptZ,.bool false])) W :=
 ⟨0,0,0,0,false,.inr ⟨rfl,a,rfl,rfl,rfl,rfl⟩,rfl,u⟩
theorem pru:prog.built 86 []=some ptZ:=by kernel_rfl
theorem pfs {P e rest o a w Q} (m:Region.wanted o (yielded e a.tmps)=true) (c x) (p:o.op=.load c x)
 (g) (j:a.eval x=.pointer (some ⟨g,0,none⟩)) (t cs f d) (q:w.heap[g]? =some (.cells cs t f))
 (r:P.underlying c=some d) (n:(match d with | .struct _ | .array _ _=>true | _=>false)=true) (k:(P.info? c).map (·.size)=some cs.size)
 (h:wpList P e Q rest (a.put o.dst (.agg cs)) w):wpList P e Q (o :: rest) a w:=by
 show (if _ then _ else _);rw [xH m];exact Or.inl (wp_load_row c x p g j t cs f d q r n k h)
def RdN (gO:Nat) (ok:Bool) (x:ByteArray) (W:World) (e:Ending) (w':World):Prop :=
 ∃ (v:Int) (o:Bool),Hid (o=true->ok=true/\Lib.atoiAll (bs x)=.ok v)/\Hid (ok=true->(∃ m,pab m/\bs x=Lib.itoa m)->o=true)/\pab v/\e=.returned (.int .i64 v)/\Upd [gO] [gO] W w'/\w'.heap[gO]? =some (.cells #[.bool o] 4 (0,0))
theorem pim {W} {A c gP k:Nat} {x ok} (w:W.cell? ⟨A,0,none⟩=some (.slice (some ⟨gP,0,none⟩) 4 4)) (z:W.cell? ⟨gP,k,none⟩=some (.string x)) (E:k<4) (j:W.heap[c]? =some (.cells #[.bool ok] 4 (0,0))) (u:x.size<=1000000) (B:Tabs W) :
 Calls prog 255 #[k,.pointer (some ⟨A,0,none⟩),.pointer (some ⟨c,0,none⟩)] W (RdN c ok x W):=by
 have G:(0:Int)<=(k:Int):=by omega
 have F:(k:Int)<4:=by omega
 by_cases a:∃ v,Lib.atoiAll (bs x)=.ok v
 · obtain ⟨v,a⟩:=a;have o:pab v:=yU a;have d:=ah (pco x v W (by omega) a);have r:=ah a;have t:=ah j;clear a j u;go_in;go_wp2_with fail;refine d.out.mono ?_;rintro e y ⟨rfl,hq⟩;have g:=ah hq;clear hq d w z;go_wp2;go_ret;exact ⟨v,ok,fun h=>⟨h,r.out⟩,fun h _=>h,o,rfl,g.out.widen (by simp),paa t.out g.out⟩
 · have n:∀ v,Lib.atoiAll (bs x)≠.ok v:=fun v e=>a ⟨v,e⟩;have d:=ah (pbX x W (by omega) n B);have r:=ah n;have t:=ah j;clear a n j u;go_in;go_wp2_with fail;refine d.out.mono ?_;rintro e y ⟨v,N,rfl,o,hq⟩;have g:=ah hq;have f:=paa t.out hq;have H:=(xa _ c 0 _ _ _ f).trans (show _=some (Value.bool ok) from rfl);have J:=xp _ c 0 _ _ f;have D:=ah (xg y c 0 _ _ (.bool false) f);clear hq d w z f;go_wp2;go_ret;refine ⟨v,false,(fun h=>by cases h),(fun _ q=>?_),o,rfl,(g.out.widen (K:=[c]) (by simp)).setCell (p:=⟨c,0,none⟩) (by simp) _,D.out⟩;obtain ⟨m,q,C⟩:=q;exact absurd (by rw [C];exact paI m q) (r.out m)
theorem pnx (s) (hs:s.size<=1000000) (w) (ak:Tabs w):Calls prog 209 #[.string s] w (ptW (bs s) w):=by
 obtain ⟨gR,aA⟩:=ae (w.heap.size);obtain ⟨w1,af⟩:=ae (w.alloc (.cells ptZ 86));have s1:=ah (aW aA af);have u1:=ah (aU af);have HG:Hid (w.heap.size<=gR):=xJ aA;have aQ:w.alloc (.cells #[.int .i64 0,.int .i64 0,.int .i64 0,.int .i64 0] 86)=w1:=af;have aO:=ah (pil s (by omega) w1 (ak.upd u1.out));obtain ⟨DZ,N⟩:=az (ptZ);have ag:=ah N;have ao:Hid (prog.built 86 []=some DZ):=by rw [N];exact pru
 have R:Fi 86 DZ:=by rw [N];exact pdo _ _ _ _
 have am:Fo DZ:=by rw [N];show _=_;simp [ptZ,Value.oneCell']
 have HS:=ah hs;rw [<-N] at s1;clear af hs N;go_in;go_wp2_with fail;refine aO.out.mono ?_;rintro e J ⟨P,HP,rfl,av⟩;obtain ⟨gP,ap⟩:=ae (w1.heap.size);obtain ⟨n,hn⟩:=az (P.length);rw [<-hn,ap];have q2:Uq w1 J:=by rw [av];exact uR.alloc _
 have RP:J.heap[gP]? =some (.cells (P.map Value.string).toArray 9 (0,0)):=by rw [av,<-ap];exact xi _ _
 have U:Hid (∀ W,Uq J W->∀ (j:Nat) (x:ByteArray),P[j]? =some x->W.cell? ⟨gP,j,none⟩=some (.string x)):=fun W u j x hx=>by
  rw [xa _ gP j _ _ _ (paa RP u),xD,ys,hx];rfl
 have T:Hid (∀ (j:Nat) (x:ByteArray),P[j]? =some x->x.size<=1000000):=fun j x hx=>xB (HP.out.2.1 x (xt hx)) HS.out;have aP:n<=4294967296:=by rw [hn];exact HP.out.2.2
 have HN:=ah hn;obtain ⟨d,an⟩:=ae (J.heap.size);have A:(J.alloc (.cells #[.slice none 0 0] 123)).heap[d]? =some (.cells #[.slice none 0 0] 123 (0,0)):=by rw [<-an];exact xi _ _
 have cA:=(xa _ d 0 _ _ _ A).trans (show _=some (Value.slice none 0 0) from rfl);have fA:=xp _ d 0 _ _ A;obtain ⟨m,au⟩:=ae ((J.alloc (.cells #[.slice none 0 0] 123)).setCell ⟨d,0,none⟩ (.slice (some ⟨gP,0,none⟩) n n));have Z:Uq J m:=by rw [<-au];exact (uR.alloc _).setNew (p:=⟨d,0,none⟩) (xJ an) _
 have RS:=ah (show m.heap[d]? =some (.cells #[.slice (some ⟨gP,0,none⟩) n n] 123 (0,0)) by
  rw [<-au];exact xg _ d 0 _ _ _ A)
 have U3:=ah ((u1.out.trans q2).trans Z);have S3:=ah (paa (paa s1.out q2) Z);have q:=ah Z;have c0:=(xa _ d 0 _ _ _ RS.out).trans (show _=some (Value.slice (some ⟨gP,0,none⟩) n n) from rfl);have T3:=ah (ak.upd U3.out);have bf:Hid (gR<m.heap.size/\gP<m.heap.size/\d<m.heap.size):=⟨paf S3.out,xA (paf RP) Z.size,paf RS.out⟩
 clear aO av hn q2 Z u1 s1 RP A aQ ap;by_cases X:n=4
 case neg =>
  have S:Hid (∀ x v c z,¬ pgW (bs s) x v c z):=fun x v c z h=>by
   have e:=xU List.length (pcj _ _ _ HP.out.1 (h.2.2.2.2 ▸ pgu x v c z));rw [yx] at e;exact X (HN.out.trans e)
  have aB:¬ (n:Int)=4:=by omega
  clear X;go_wp2_with (first | (refine bB ao ?_) | (refine bV S3 R rfl am ?_))
  refine bF (xz _ _ _ _ _ _ S3.out) underlying86 R ?_;rw [ag.out];exact ptNo S.out (U3.out.setRowNew HG.out _)
 obtain ⟨M,C,E,K,f⟩:=pp3 (HN.out.symm.trans X);have aB:(n:Int)=4:=by omega
 rw [X] at RS c0;have bc:=ah f;have y:Hid (∀ W,Uq m W->W.cell? ⟨d,0,none⟩=some (.slice (some ⟨gP,0,none⟩) 4 4)/\W.cell? ⟨gP,0,none⟩=some (.string M)/\W.cell? ⟨gP,1,none⟩=some (.string C)/\W.cell? ⟨gP,2,none⟩=some (.string E)/\W.cell? ⟨gP,3,none⟩=some (.string K)):=fun W u =>
  ⟨xa _ d 0 _ _ _ (paa RS.out u),U.out W (q.out.trans u) 0 M (by rw [f];rfl),U.out W (q.out.trans u) 1 C (by rw [f];rfl),U.out W (q.out.trans u) 2 E (by rw [f];rfl),U.out W (q.out.trans u) 3 K (by rw [f];rfl)⟩
 have ad:Hid (M.size<=1000000/\C.size<=1000000/\E.size<=1000000/\K.size<=1000000):=⟨T.out 0 M (by rw [f];rfl),T.out 1 C (by rw [f];rfl),T.out 2 E (by rw [f];rfl),T.out 3 K (by rw [f];rfl)⟩
 have HW:Hid (∀ x v c z,pgW (bs s) x v c z->bs M=Lib.itoa x/\bs C=Lib.itoa v/\bs E=Lib.itoa c/\bs K=Lib.itoa z):=fun x v c z h=>by
  have e:=pcj _ _ _ HP.out.1 (h.2.2.2.2 ▸ pgu x v c z);rw [f] at e;simpa using e
 obtain ⟨a,ac⟩:=ae (m.heap.size);have A:(m.alloc (.cells #[.bool false] 4)).heap[a]? =some (.cells #[.bool false] 4 (0,0)):=by rw [<-ac];exact xi _ _
 have a8:=(xa _ a 0 _ _ _ A).trans (show _=some (Value.bool false) from rfl);have aR:=xp _ a 0 _ _ A;obtain ⟨y0,aq⟩:=ae ((m.alloc (.cells #[.bool false] 4)).setCell ⟨a,0,none⟩ (.bool true));have q0:Uq m y0:=by rw [<-aq];exact (uR.alloc _).setNew (p:=⟨a,0,none⟩) (xJ ac) _
 obtain ⟨ob,ax⟩:=az (true);have ba:=ah ax;have B0:=ah (show y0.heap[a]? =some (.cells #[.bool ob] 4 (0,0)) by
  rw [<-aq,ax];exact xg _ a 0 _ _ _ A)
 have Q0:=ah q0;have aa:Hid (m.heap.size<=a):=xJ ac;clear ax q0 RS X f U T aP A;have bd:∀ (fn:Fn) (first aH:Array Value) (w:World),(Instr.makeFunc fn first aH).run prog w=.ok (.func fn first aH) w:=fun _ _ _ _=>rfl;go_wp2_with (go_at_fn 255)
 clear aq ac c0 aB cA fA a8 aR au an;refine (show Calls prog 255 #[.int .i64 0,.pointer (some ⟨d,0,none⟩),.pointer (some ⟨a,0,none⟩)] y0 (RdN a ob M y0) from pim (k:=0) (y.out _ Q0.out).1 (y.out _ Q0.out).2.1 (by omega) B0.out ad.out.1 (T3.out.upd Q0.out)).mono ?_;rintro e y1 ⟨F,o0,a9,aZ,aG,rfl,hq,g⟩;have B1:=ah g;have Q1:=ah (Q0.out.past hq (fun j o=>by simp at o;rw [o];exact aa.out));have ay:=ah aG;clear hq g aG Q0 B0;go_wp2_with (go_at_fn 255)
 refine (show Calls prog 255 #[.int .i64 1,.pointer (some ⟨d,0,none⟩),.pointer (some ⟨a,0,none⟩)] y1 (RdN a o0 C y1) from pim (k:=1) (y.out _ Q1.out).1 (y.out _ Q1.out).2.2.1 (by omega) B1.out ad.out.2.1 (T3.out.upd Q1.out)).mono ?_;rintro e y2 ⟨D,o1,aD,aV,aN,rfl,hq,g⟩;have B2:=ah g;have Y:=ah (Q1.out.past hq (fun j o=>by simp at o;rw [o];exact aa.out));have aJ:=ah aN;clear hq g aN Q1 B1;go_wp2_with (go_at_fn 255)
 refine (show Calls prog 255 #[.int .i64 2,.pointer (some ⟨d,0,none⟩),.pointer (some ⟨a,0,none⟩)] y2 (RdN a o1 E y2) from pim (k:=2) (y.out _ Y.out).1 (y.out _ Y.out).2.2.2.1 (by omega) B2.out ad.out.2.2.1 (T3.out.upd Y.out)).mono ?_;rintro e y3 ⟨G,o2,al,a6,aI,rfl,hq,g⟩;have B3:=ah g;have q:=ah (Y.out.past hq (fun j o=>by simp at o;rw [o];exact aa.out));have aL:=ah aI;clear hq g aI Y B2;go_wp2_with (go_at_fn 255)
 refine (show Calls prog 255 #[.int .i64 3,.pointer (some ⟨d,0,none⟩),.pointer (some ⟨a,0,none⟩)] y3 (RdN a o2 K y3) from pim (k:=3) (y.out _ q.out).1 (y.out _ q.out).2.2.2.2 (by omega) B3.out ad.out.2.2.2 (T3.out.upd q.out)).mono ?_;rintro e y4 ⟨H,o3,ab,a4,aE,rfl,hq,g⟩;have B4:=ah g;have Q4:=ah (q.out.past hq (fun j o=>by simp at o;rw [o];exact aa.out));have aC:=ah aE;clear hq g aE q B3
 skip
 obtain ⟨r,B⟩:∃ r:Array Value,r=#[.int .i64 F,.int .i64 D,.int .i64 G,.int .i64 H]:=⟨_,rfl⟩
 have aM:Hid (prog.built 86 [(0,.int .i64 F),(1,.int .i64 D),(2,.agg #[G,H])]=some r):=by rw [B];exact psR _ _ _ _
 have O:Fi 86 r:=by rw [B];exact pdo _ _ _ _
 have aw:Fo r:=by rw [B];show _=_;simp [Value.oneCell']
 have aK:Hid ((#[.int .i64 0,.int .i64 0,.int .i64 0,.int .i64 0]:Array Value).size=r.size):=by rw [B];rfl
 obtain ⟨w5,Z5,W5,R5,aj⟩:=paz y4 86 #[.int .i64 0,.int .i64 0,.int .i64 0,.int .i64 0] r;obtain ⟨gT,a5⟩:=ae (y4.heap.size);rw [a5] at Z5 W5 R5;have U5:=ah ((U3.out.trans Q4.out).trans aj);have S5:=ah (paa (paa S3.out Q4.out) aj);have B5:=ah (paa B4.out aj);have cB:=(xa _ a 0 _ _ _ B5.out).trans (show _=some (Value.bool o3) from rfl);have aF:=ah B;have ar:=ah (pgV F D G H ay.out aJ.out aL.out aC.out w5 (ak.upd U5.out));rw [<-B] at ar;clear aj B S3 B4 y
 cases o3 with
 | false =>
  have S:Hid (∀ x v c z,¬ pgW (bs s) x v c z):=fun x v c z h=>by
   obtain ⟨e0,e1,e2,e3⟩:=HW.out x v c z h;have:=a4.out (a6.out (aV.out (aZ.out ba.out ⟨x,h.1,e0⟩) ⟨v,h.2.1,e1⟩) ⟨c,h.2.2.1,e2⟩) ⟨z,h.2.2.2.1,e3⟩
   cases this
  go_wp2_with (first | (refine bS Z5 O aK aw W5 ?_) | (refine bB ao ?_) | (refine bV S5 R rfl am ?_) | (refine bB aM ?_))
  refine bF (xz _ _ _ _ _ _ S5.out) underlying86 R ?_;rw [ag.out];exact ptNo S.out (U5.out.setRowNew HG.out _)
 | true =>
  have aT:Hid (Lib.atoiAll (bs M)=.ok F/\Lib.atoiAll (bs C)=.ok D/\Lib.atoiAll (bs E)=.ok G/\Lib.atoiAll (bs K)=.ok H) :=
   ⟨(a9.out (aD.out (al.out (ab.out rfl).1).1).1).2,(aD.out (al.out (ab.out rfl).1).1).2,(al.out (ab.out rfl).1).2,(ab.out rfl).2⟩
  have a7:Hid (∀ x v c z,pgW (bs s) x v c z->x=F/\v=D/\c=G/\z=H):=fun x v c z h=>by
   obtain ⟨e0,e1,e2,e3⟩:=HW.out x v c z h;obtain ⟨a0,a1,a2,a3⟩:=aT.out;rw [e0,paI _ h.1] at a0;rw [e1,paI _ h.2.1] at a1;rw [e2,paI _ h.2.2.1] at a2;rw [e3,paI _ h.2.2.2.1] at a3;injection a0 with a0;injection a1 with a1;injection a2 with a2;injection a3 with a3;exact ⟨a0,a1,a2,a3⟩
  go_wp2_with (first | (refine bB aM ?_) | (refine bS Z5 O aK aw W5 ?_) | (refine pfs (by rfl) 86 _ rfl gT rfl _ r _ _ R5.out underlying86 rfl O.out ?_))
  refine ar.out.mono ?_;rintro e w6 ⟨t,HT,_,rfl,hq⟩;have U6:=ah (U5.out.trans hq);have S6:=ah (paa S5.out hq);have R6:=ah (paa R5.out hq);clear hq ar U5 S5 R5;by_cases Q:t=s
  case neg =>
   have S:Hid (∀ x v c z,¬ pgW (bs s) x v c z):=fun x v c z h=>by
    obtain ⟨rfl,rfl,rfl,rfl⟩:=a7.out x v c z h;exact Q (paT (HT.out.trans h.2.2.2.2.symm))
   have g1:(t.toList == s.toList)=false:=by rw [<-yK];exact fun h=>Q (paT (pbM.1 h))
   clear Q;go_wp2_with (first | (refine bB ao ?_) | (refine bV S6 R rfl am ?_))
   refine bF (xz _ _ _ _ _ _ S6.out) underlying86 R ?_;rw [ag.out];exact ptNo S.out (U6.out.setRowNew HG.out _)
  have aY:Hid (pgW (bs s) F D G H):=⟨ay.out,aJ.out,aL.out,aC.out,by rw [<-Q];exact HT.out⟩
  have g1:(t.toList == s.toList)=true:=pbM.2 (by rw [Q]);obtain ⟨wF,ai⟩:=ae (w6.setRow gR r);have RF:=bX ai S6;have UF:Hid (Uq w wF):=by show Upd _ _ _ _;rw [<-ai];exact U6.out.setRowNew HG.out _
  have aS:Hid (DZ.size=r.size):=by show _=_;rw [ag.out,aF.out];rfl
  have bb:=ah ai;clear Q ai;go_wp2_with (first | (refine bL R6 underlying86 O ?_) | (refine bS S6 O aS aw bb ?_))
  refine bF RF underlying86 O ?_;rw [aF.out];exact ⟨F,D,G,H,true,.inl ⟨rfl,aY.out⟩,rfl,UF.out⟩
end Go.Proofs.YtkhjolbbpdaplaaGreatDoor
