/- sortesref33.Case.Event and what follows. -/
import Derived.Test.YtkhjolbbpdaplaaGreatDoorHBA
import Derived.Test.YtkhjolbbpdaplaaGreatDoorHAT
namespace Go.Proofs.YtkhjolbbpdaplaaGreatDoor
set_option maxHeartbeats 8000000
open Go.RowKit Go.Proofs.Tryz
set_option maxRecDepth 100000
theorem pdi (l):1<=manyN l/\manyN l<=4:=by
 have:=pig l 0 4 (by omega);unfold manyN;omega
theorem pnv {n k} (h:k<n):(pce n)[k]? =some (secN k):=by simp [pce,h]
theorem pgC (k):secN k<1152921504606845789:=poa _
theorem CaseRd.memb {l w L K P f S C q} (h:CaseRd l w L K P f S C q) {k} (u:k<manyN l):∃ g a,L=.slice (some ⟨g,0,none⟩) (manyN l) a/\g<w.heap.size/\w.cell? ⟨g,k * 3,none⟩=some (.int .i64 ((k+1:Nat):Int))/\w.cell? ⟨g,k * 3+2,none⟩=some (.int .i64 (gP (secN k):Int)):=by
 obtain ⟨r,a,e,h1,v,j⟩:=h.made.crew;have o:(wsN l (manyN l)).length=manyN l:=by simp [wsN]
 obtain ⟨x,d⟩:∃ x,(wsN l (manyN l))[k]? =some x:=⟨_,xd (by omega)⟩
 obtain ⟨g,n,c,p,t,m⟩:=j k _ (paW d);rw [o,n] at e;exact ⟨g,a,e,c,p,m⟩
theorem CaseRd.sec {l w L K P f S C p} (h:CaseRd l w L K P f S C p) {k} (m:k<manyN l):∃ g a,S=.slice (some ⟨g,0,none⟩) (manyN l) a/\g<w.heap.size/\w.cell? ⟨g,k,none⟩=some (.int .i64 (secN k:Int)):=by
 obtain ⟨q,a,e,h1,r,c⟩:=h.made.secs;have j:(pce (manyN l)).length=manyN l:=by simp [pce]
 rcases c with c | ⟨b,d,n,o⟩
 · omega
 · rw [j,d] at e;exact ⟨b,a,e,n,o k _ (pnv m)⟩
def EvG.from (e:EvG) (who:Int):EvG:={ e with h:=who }
theorem EvG.from_ok {e:EvG} (h:e.ok) {who} (a:pab who):(e.from who).ok:=⟨h.1,h.2.1,a,h.2.2.2.1,h.2.2.2.2.1,h.2.2.2.2.2.1,h.2.2.2.2.2.2⟩
theorem EvG.signed_ok {e:EvG} (h:e.ok) (x):(e.signed x).ok:=by
 have h1:gP (nonceN x e.text)<2305843009213691579:=pqE _;have a:sWith x (nonceN x e.text) e.text<1152921504606845789:=pdL _ _ _;exact ⟨h.1,h.2.1,h.2.2.1,h.2.2.2.1,h.2.2.2.2.1,h.2.2.2.2.2.1,by show pab (_:Int);unfold pab;simp only [EvG.signed];omega,by show pab (_:Int);unfold pab;simp only [EvG.signed];omega⟩
theorem EvG.set2 (e:EvG) (a):(e.V.toArray).setIfInBounds 2 (.int .i64 a)=(e.from a).V.toArray:=by
 simp [EvG.V,EvG.from]
theorem pbV (l L K P Y S C KS w) (hC:CaseRd l w L K P Y S C KS) (k) (G:k<manyN l) (c:EvG) (he:c.ok) (ap:c.x.size<=1000000) :
 Calls prog 34 #[.agg (csV L K P Y S C KS),.int .i64 (k:Int),.agg c.V.toArray] w (pie ((c.from ((k+1:Nat):Int)).signed (secN k)) w):=by
 have ar:k<4:=by have:=pdi l;omega
 have r:c.p.length=32:=he.2.2.2.2.2.1;obtain ⟨gm,mc,hL,ab,Q,_⟩:=hC.memb G;obtain ⟨j,sc,U,R,an⟩:=hC.sec G;obtain ⟨n,hn⟩:=az (manyN l);rw [<-hn] at hL U G;obtain ⟨id,ac⟩:=az (((k+1:Nat):Int));rw [<-ac] at Q ⊢;have aa:pab id:=by unfold pab;omega
 obtain ⟨CA,D⟩:=az (csV L K P Y S C KS);obtain ⟨EV,E⟩:=az (c.V.toArray);obtain ⟨d,ad⟩:=ae (w.heap.size);obtain ⟨w0,ag⟩:=ae (w.alloc (.cells CA 36));have Z:=aW ad ag;have u0:=aU ag;obtain ⟨gE,aj⟩:=ae (w0.heap.size);obtain ⟨w1,ak⟩:=ae (w0.alloc (.cells EV 71));have r1:=aW aj ak;have u1:=aU ak;obtain ⟨gR,af⟩:=ae (w1.heap.size);obtain ⟨o,ai⟩:=ae (w1.alloc (.cells zZ0 71));have N:o.heap[gR]? =some (.cells evZ.toArray 71 (0,0)):=by rw [<-af,<-ai,paH];exact xi _ _
 have H:=aU ai;have al:d<gE:=by rw [<-aj];exact paf Z
 have aq:gE<gR:=by rw [<-af];exact paf r1
 have U2:Uq w o:=(u0.trans u1).trans H;have J:=paa Z (u1.trans H);have O:=paa r1 H;have HG:Hid (w.heap.size=d/\d<gE/\gE<gR):=⟨ad,al,aq⟩
 have aB:=ah N;have cL:o.cell? ⟨d,0,none⟩=some (.slice (some ⟨gm,0,none⟩) n mc):=by rw [xa _ d 0 _ _ _ J,D,<-hL];rfl
 have cM:o.cell? ⟨gm,k * 3,none⟩=some (.int .i64 id):=(U2.cell (p:=⟨gm,k * 3,none⟩) ab (by simp)).trans Q;have e2:o.cell? ⟨gE,2,none⟩=some (.int .i64 c.h):=by rw [xa _ gE 2 _ _ _ O,E];rfl
 have f2:o.frozen? ⟨gE,2,none⟩=false:=xp _ _ _ _ _ O;obtain ⟨f,v⟩:=ae (o.setCell ⟨gE,2,none⟩ (.int .i64 id));obtain ⟨q,m⟩:=az ((c.from id).V.toArray);have E3:Fr f gE q 71:=by
  show _=_;rw [<-v,xg _ _ _ _ _ _ O,E,EvG.set2,m]
 have F:Uq w f:=by rw [<-v];exact U2.setNew (p:=⟨gE,2,none⟩) (by show w.heap.size<=gE;omega) _
 have X:Upd [gE] [gE] o f:=by
  have h:=(Upd.setCellsIn (g:=gE) (S:=[gE]) (S':=[gE]) (by simp) [.int .i64 id] 2 _ (Upd.refl [gE] o))
  rw [<-v];exact h
 have R3:Fr f gR evZ.toArray 71:=(X.block gR (paf N) (by simp;omega)).trans N;have C3:Fr f d CA 36:=(X.block d (paf J) (by simp;omega)).trans J;have ay:=ah F;have ax:=ah v;have i0:(0:Int)<=(k:Int):=by omega
 have i1:(k:Int)<(n:Int):=by omega
 have M:∀ W,Uq f W->W.cell? ⟨d,6,none⟩=some (.slice (some ⟨j,0,none⟩) n sc)/\W.cell? ⟨j,k,none⟩=some (.int .i64 (secN k:Int)):=fun W u=>by
  refine ⟨?_,(u.cell (p:=⟨j,k,none⟩) (xA R F.size) (by simp)).trans ((F.cell (p:=⟨j,k,none⟩) R (by simp)).trans an)⟩;rw [xa _ d 6 _ _ _ (paa C3.out u),D,<-U];rfl
 obtain ⟨x,T⟩:=az (secN k);have ao:x<1152921504606845789:=by rw [T];exact pgC k
 rw [<-T] at M ⊢;have aC:Fi 71 q:=by rw [m];exact EvG.info (e:=c.from id) r
 have au:Hid (∀ W,Calls prog 85 #[x,.agg q] W (pie ((c.from id).signed x) W)):=fun W=>by
  rw [m];exact pnk (c.from id) (EvG.from_ok he aa) ap x ao W
 have HK:Hid (∀ W,Uq f W->W.cell? ⟨d,6,none⟩=some (.slice (some ⟨j,0,none⟩) n sc)/\W.cell? ⟨j,k,none⟩=some (.int .i64 (x:Int))/\(Instr.loadAt 71 (.pointer (some ⟨gE,0,none⟩))).run prog W=.ok (.agg q) W):=fun W u=>by
  obtain ⟨c1,c2⟩:=M W u;refine ⟨c1,c2,EvG.load (e:=c.from id) r m ?_⟩;show W.heap[gE]? =_;rw [<-m];exact paa E3.out u
 have aw:Hid (∀ W V,Uq f W->(W.setRow gR V).cell? ⟨d,6,none⟩=some (.slice (some ⟨j,0,none⟩) n sc)/\(W.setRow gR V).cell? ⟨j,k,none⟩=some (.int .i64 (x:Int))/\(Instr.loadAt 71 (.pointer (some ⟨gE,0,none⟩))).run prog (W.setRow gR V)=.ok (.agg q) (W.setRow gR V)):=fun W V u=>by
  obtain ⟨c1,c2⟩:=M W u;have A:∀ b,b≠gR->(W.setRow gR V).heap[b]? =W.heap[b]?:=fun b A=>yD _ _ _ _ A;refine ⟨(yd (a:=⟨d,6,none⟩) (A d (by omega))).trans c1,(yd (a:=⟨j,k,none⟩) (A j (by omega))).trans c2,EvG.load (e:=c.from id) r m ?_⟩;show (W.setRow gR V).heap[gE]? =_;rw [<-m,A gE (by omega)];exact paa E3.out u
 have aA:Hid (q.size=40):=by rw [m];exact EvG.V_len (e:=c.from id) r
 have HP:=ah r;rw [<-D,<-E];clear D E m hn ac aa T ao U hL M Z u0 r1 u1 N H U2 J O F X hC he ap Q an r v R ab G ar al aq;go_in;go_upto_region 2 with (fail)
 rw [ax.out];have am:Uq f f.drew:=uR.drew;refine bH HK am fun B=>?_;refine tkS [0,1,2,3,4] B ?_;refine tkL 5 B q (fun w av=>av.2.2) ?_;refine tk1 6 fun K z=>?_;go_simp;refine (au.out _).mono ?_;rintro e aD ⟨EW,y,rfl,hq⟩;have t:=am.trans hq;clear hq;go_wp2_with fail;refine tkK z (HK.out _ t) fun B=>?_;clear z K;refine tk1 7 fun K z=>?_;rw [xH (by rfl)];refine xM 71 _ _ rfl gR EW rfl rfl _ _ (paa R3.out t) (by rw [y.out];exact EvG.info (e:=(c.from id).signed x) HP.out) (by rw [y.out,pcr];exact (EvG.V_len (e:=(c.from id).signed x) HP.out).symm) (by rw [y.out];exact EvG.one _) ?_;refine tkK z (aw.out _ _ t) fun B=>?_;clear z K;refine tkD ?_;go_wp2_with fail;exact xI (yX rfl _ _ gR _ EW _ _ rfl (xz _ _ _ _ _ _ (paa R3.out t)) underlying71 rfl (by rw [y.out];exact EvG.info (e:=(c.from id).signed x) HP.out)) rfl ⟨EW,y,rfl,(ay.out.trans t).setRowNew (by have:=HG.out;omega) _⟩
structure EvdG where
 kind:Int
 who:Int
 aw:Int
 aT:ByteArray
 ar:Int
 as':Int
 bw:Int
 bT:ByteArray
 br:Int
 bs':Int
 low:Int
 high:Int
 F:ByteArray
 A:ByteArray
 B:ByteArray
 ci:Int
 ck:Int
 c1:Int
 c2:Int
def EvdG.L (e:EvdG):List Value:=[.int .i64 e.kind,.int .i64 e.who,.int .i64 e.aw,.string e.aT,.int .i64 e.ar,.int .i64 e.as',.int .i64 e.bw,.string e.bT,.int .i64 e.br,.int .i64 e.bs',.int .i64 e.low,.int .i64 e.high,.string e.F,.string e.A,.string e.B,.int .i64 e.ci,.int .i64 e.ck,.int .i64 e.c1,.int .i64 e.c2]
def EvdG.V (e:EvdG):Array Value:=e.L.toArray
def evd0:EvdG:=⟨0,0,0,⟨#[]⟩,0,0,0,⟨#[]⟩,0,0,0,0,⟨#[]⟩,⟨#[]⟩,⟨#[]⟩,0,0,0,0⟩
theorem EvdG.info (e:EvdG):(prog.info? 50).map (·.size)=some e.V.size:=by
 show _=some 19;kernel_rfl
theorem EvdG.one (e:EvdG):e.V.all (·.oneCell')=true:=by simp [EvdG.V,EvdG.L,Value.oneCell']
theorem EvdG.built (k who):prog.built 50 [(0,.int .i64 k),(1,.int .i64 who)]=some { evd0 with kind:=k,who:=who:EvdG }.V:=by kernel_rfl
theorem pai {w:World} {g i b v o} (h:w.heap[b]? =some o) (a:b≠g):(w.setCell ⟨g,i,none⟩ v).heap[b]? =some o:=by
 have u:=(Upd.setCellsIn (g:=g) (S:=[g]) (S':=[g]) (by simp) [v] i _ (Upd.refl [g] w))
 exact (u.block b (paf h) (by simp [a])).trans h
theorem pax {w:World} {g i b l o} (h:w.heap[b]? =some o) (a:b≠g):(w.setCells g i l).heap[b]? =some o:=by
 have u:=(Upd.setCellsIn (g:=g) (S:=[g]) (S':=[g]) (by simp) l i _ (Upd.refl [g] w))
 exact (u.block b (paf h) (by simp [a])).trans h
structure GuSt (w wr:World) (gC gQ gR gV gA gB:Nat) (CA EV EA EB:Array Value) (q0 q1 q2:Int):Prop where
 c:wr.heap[gC]? =some (.cells CA 36 (0,0))
 q:wr.heap[gQ]? =some (.cells #[q0,q1,q2] 52 (0,0))
 r:wr.heap[gR]? =some (.cells evd0.V 50 (0,0))
 v:wr.heap[gV]? =some (.cells EV 50 (0,0))
 a:wr.heap[gA]? =some (.cells EA 71 (0,0))
 b:wr.heap[gB]? =some (.cells EB 71 (0,0))
 up:Upd [] [] w wr
 base:w.heap.size<=gC/\gC<gQ/\gQ<gR/\gR<gV/\gV<gA/\gA<gB
section
variable {w wr w' : World} {gC gQ gR gV gA gB : Nat} {CA EV EA EB : Array Value} {q0 q1 q2 : Int}
theorem GuSt.quiet (h:GuSt w wr gC gQ gR gV gA gB CA EV EA EB q0 q1 q2) (u:Uq wr w'):GuSt w w' gC gQ gR gV gA gB CA EV EA EB q0 q1 q2 :=
 ⟨paa h.c u,paa h.q u,paa h.r u,paa h.v u,paa h.a u,paa h.b u,h.up.trans u,h.base⟩
theorem GuSt.setA (h:GuSt w wr gC gQ gR gV gA gB CA EV EA EB q0 q1 q2) (i v):GuSt w (wr.setCell ⟨gA,i,none⟩ v) gC gQ gR gV gA gB CA EV (EA.setIfInBounds i v) EB q0 q1 q2:=by
 have d:=h.base;exact ⟨pai h.c (by omega),pai h.q (by omega),pai h.r (by omega),pai h.v (by omega),xg _ _ _ _ _ _ h.a,pai h.b (by omega),h.up.setNew (p:=⟨gA,i,none⟩) (by show w.heap.size<=gA;omega) _,h.base⟩
theorem GuSt.setB (h:GuSt w wr gC gQ gR gV gA gB CA EV EA EB q0 q1 q2) (i v):GuSt w (wr.setCell ⟨gB,i,none⟩ v) gC gQ gR gV gA gB CA EV EA (EB.setIfInBounds i v) q0 q1 q2:=by
 have d:=h.base;exact ⟨pai h.c (by omega),pai h.q (by omega),pai h.r (by omega),pai h.v (by omega),pai h.a (by omega),xg _ _ _ _ _ _ h.b,h.up.setNew (p:=⟨gB,i,none⟩) (by show w.heap.size<=gB;omega) _,h.base⟩
theorem GuSt.setV (h:GuSt w wr gC gQ gR gV gA gB CA EV EA EB q0 q1 q2) (i l):GuSt w (wr.setCells gV i l) gC gQ gR gV gA gB CA (paY EV i l) EA EB q0 q1 q2:=by
 have d:=h.base;exact ⟨pax h.c (by omega),pax h.q (by omega),pax h.r (by omega),paP gV _ l i wr EV h.v,pax h.a (by omega),pax h.b (by omega),Upd.setCellsNew (by omega) l i _ h.up,h.base⟩
theorem GuSt.other (h:GuSt w wr gC gQ gR gV gA gB CA EV EA EB q0 q1 q2) {g} (d:gB<g) (i v):GuSt w (wr.setCell ⟨g,i,none⟩ v) gC gQ gR gV gA gB CA EV EA EB q0 q1 q2:=by
 have e:=h.base;exact ⟨pai h.c (by omega),pai h.q (by omega),pai h.r (by omega),pai h.v (by omega),pai h.a (by omega),pai h.b (by omega),h.up.setNew (p:=⟨g,i,none⟩) (by show w.heap.size<=g;omega) _,h.base⟩
end
def evCs (q n:Int) (x:ByteArray):EvG:=⟨q,4,0,0,n,x,zero32,0,0⟩
theorem pnw (q n x):prog.built 71 [(0,.int .i64 q),(1,.int .i64 4),(4,.int .i64 n),(5,.string x)]=some (evCs q n x).V.toArray:=by kernel_rfl
theorem pbL {q n} (x) (hq:pab q) (a:pab n):(evCs q n x).ok:=⟨hq,by unfold pab;simp [evCs],by unfold pab;simp [evCs],by unfold pab;simp [evCs],a,rfl,by unfold pab;simp [evCs],by unfold pab;simp [evCs]⟩
theorem phF (U H p) (R:H[0]? =some (.int .i64 p)) (Q:crtF p=none) (J:pab p) (w):Calls prog 8 #[.agg U,.agg H] w (Mk (.tuple #[.int .i64 0,.int .i64 14]) w):=by
 have Z:=ah R;obtain ⟨gS,ab⟩:=ae (w.heap.size);obtain ⟨S,Y⟩:=ae (w.alloc (.cells U 32));have P:=aU Y;obtain ⟨gE,aa⟩:=ae (S.heap.size);obtain ⟨o,M⟩:=ae (S.alloc (.cells H 50));have O:=aW aa M;have T:=aU M;have U1:=ah (P.trans T);have N:Uq o o.drew:=uR.drew;have g:Hid (∀ W,Uq o W->W.cell? ⟨gE,0,none⟩=some (.int .i64 p)):=fun W u=>(xa _ gE 0 _ _ _ (paa O u)).trans Z.out;have E:=ah Q;have D:=ah J;have F:Hid ((prog.info? 98).map (·.size)=some (#[.bool false,.nilFunc,.nilFunc,.nilFunc]:Array Value).size):=by show _=some 4;kernel_rfl
 clear P O T Q J R;go_in;go_upto_region 1 with (fail)
 refine @_root_.id ((∀ (bM f:Nat) (W:World),Hid (Uq o W)->(?pj1:Nat->Nat->World->Prop) bM f W)->_) (fun G=>?mj1) ?jj1
 case mj1 =>
  refine bH g N fun c=>?_;refine tkS [1,2] c ?_;refine tkA [0,7] ?_;refine tkC (fun K a=>?_) ?_
  · go_simp;refine (pci _).mono ?_;rintro e y ⟨bM,rfl,t,hq⟩;have k:=N.trans hq;clear hq;have C:=t;clear t;go_wp2_with fail;refine tkK a (g.out _ k) fun c=>?_;clear a K;refine tkA [3,7] ?_;refine tkC (fun K a=>?_) ?_
    · have v:=(C.out.look_ok (x:=p) undC (ph2 y) D.out).trans (xU (fun z=>Result.ok z y) (show _=Value.tuple #[.agg #[.bool false,.nilFunc,.nilFunc,.nilFunc],.bool false] from (by rw [E.out];rfl)));go_wp2_with fail;clear v C;refine tkK a (g.out _ k) fun c=>?_;clear a K;refine tkS [4,5,6] c ?_;refine tk1 7 fun K a=>?_;go_simp;obtain ⟨f,m,n,d,r,hq⟩:=paw y (.cells #[.bool false,.nilFunc,.nilFunc,.nilFunc] 98);rw [<-n,<-d];have B:o.heap.size<=f:=(by have:=k.size;omega);have j:=k.trans hq;clear n d hq;refine tkK a (g.out _ j) fun c=>?_;clear a K;refine tk1 8 fun K a=>?_;rw [xH (by rfl)];refine xM 98 _ _ rfl f #[.bool false,.nilFunc,.nilFunc,.nilFunc] rfl rfl _ _ r.out F.out rfl (by simp [Value.oneCell']) ?_;obtain ⟨A,d⟩:=az (m.setRow f #[.bool false,.nilFunc,.nilFunc,.nilFunc]);have h:=j.setRowNew B #[.bool false,.nilFunc,.nilFunc,.nilFunc];rw [<-d] at h ⊢;clear d;refine tkK a (g.out _ h) fun c=>?_;clear a K;refine tkY 9 c ?_;refine tkD ?_;exact G bM f A (ah h)
    refine tkZ fun K a=>?_;go_simp;obtain ⟨f,m,n,d,r,hq⟩:=paw y (.cells #[.bool false,.nilFunc,.nilFunc,.nilFunc] 98);rw [<-n,<-d];have B:o.heap.size<=f:=(by have:=k.size;omega);have j:=k.trans hq;have q:=ah (C.out.upd hq (by simp));clear C;clear n d hq;refine tkK a (g.out _ j) fun c=>?_;clear a K;refine tk1 3 fun K a=>?_;have v:=(q.out.look_ok (x:=p) undC (ph2 m) D.out).trans (xU (fun z=>Result.ok z m) (show _=Value.tuple #[.agg #[.bool false,.nilFunc,.nilFunc,.nilFunc],.bool false] from (by rw [E.out];rfl)));go_wp2_with fail;clear v q;refine tkK a (g.out _ j) fun c=>?_;clear a K;refine tkS [4,5,6] c ?_;refine tk1 8 fun K a=>?_;rw [xH (by rfl)];refine xM 98 _ _ rfl f #[.bool false,.nilFunc,.nilFunc,.nilFunc] rfl rfl _ _ r.out F.out rfl (by simp [Value.oneCell']) ?_;obtain ⟨A,d⟩:=az (m.setRow f #[.bool false,.nilFunc,.nilFunc,.nilFunc]);have h:=j.setRowNew B #[.bool false,.nilFunc,.nilFunc,.nilFunc];rw [<-d] at h ⊢;clear d;refine tkK a (g.out _ h) fun c=>?_;clear a K;refine tkY 9 c ?_;refine tkD ?_;exact G bM f A (ah h)
  refine tkZ fun K a=>?_;go_simp;obtain ⟨f,y,n,d,X,hq⟩:=paG o (.cells #[.bool false,.nilFunc,.nilFunc,.nilFunc] 98);rw [<-n,<-d];have B:o.heap.size<=f:=(by omega);have k:=hq;clear n d hq;refine tkK a (g.out _ k) fun c=>?_;clear a K;refine tk1 0 fun K a=>?_;go_simp;refine (pci _).mono ?_;rintro e m ⟨bM,rfl,t,hq⟩;have j:=k.trans hq;have r:=ah (paa X.out hq);clear hq;have q:=t;clear t;go_wp2_with fail;refine tkK a (g.out _ j) fun c=>?_;clear a K;refine tk1 3 fun K a=>?_;have v:=(q.out.look_ok (x:=p) undC (ph2 m) D.out).trans (xU (fun z=>Result.ok z m) (show _=Value.tuple #[.agg #[.bool false,.nilFunc,.nilFunc,.nilFunc],.bool false] from (by rw [E.out];rfl)));go_wp2_with fail;clear v q;refine tkK a (g.out _ j) fun c=>?_;clear a K;refine tkS [4,5,6] c ?_;refine tk1 8 fun K a=>?_;rw [xH (by rfl)];refine xM 98 _ _ rfl f #[.bool false,.nilFunc,.nilFunc,.nilFunc] rfl rfl _ _ r.out F.out rfl (by simp [Value.oneCell']) ?_;obtain ⟨A,d⟩:=az (m.setRow f #[.bool false,.nilFunc,.nilFunc,.nilFunc]);have h:=j.setRowNew B #[.bool false,.nilFunc,.nilFunc,.nilFunc];rw [<-d] at h ⊢;clear d;refine tkK a (g.out _ h) fun c=>?_;clear a K;refine tkY 9 c ?_;refine tkD ?_;exact G bM f A (ah h)
 intro bM f w3 U3;go_wp2;go_ret2;exact ⟨rfl,U1.out.trans U3.out⟩
theorem pp2 (a) (X:EvdG) (d:crtF X.kind=none) (c:pab X.kind) (w):Calls prog 8 #[.agg a,.agg X.V] w (Mk (.tuple #[.int .i64 0,.int .i64 14]) w):=phF a X.V X.kind rfl d c w
def BalR (l:List UInt8) (y:ByteArray) (ok:Bool):Prop:=(ok=true/\∃ b,pbk l b/\bs y=b.key)\/(ok=false/\∀ b,¬ pbk l b)
def puw (l:List UInt8) (w:World) (e:Ending) (w':World):Prop:=∃ (y:ByteArray) (ok:Bool),Hid (BalR l y ok)/\e=.returned (.tuple #[.string y,.bool ok])/\Upd [] [] w w'
def pux (s:ByteArray) (W:World) (e:Ending) (w':World):Prop :=
 ∃ P:List ByteArray,Hid (pcb (bs s) (P.map bs)/\(∀ p∈P,p.size<=s.size)/\P.length<=4294967296)/\e=.returned (.slice (some ⟨W.heap.size,0,none⟩) P.length P.length)/\w'=W.alloc (.cells (P.map Value.string).toArray 9)
theorem pil (s) (h:s.size<=4000000000) (W) (a:Tabs W):Calls prog 204 #[.string s,.string ⟨#[32]⟩] W (pux s W):=by
 obtain ⟨m,f⟩:=a.m;refine (Tryz.strings_Split s ⟨#[32]⟩ m W (by omega) f (by decide)).mono ?_;rintro e w' ⟨rfl,rfl⟩;have d:=Lib.splitB_all ⟨#[32]⟩ (by decide) 0 (Lib.countB s ⟨#[32]⟩) s rfl;have g:Lib.countB s ⟨#[32]⟩<=s.size:=by
  have e:Lib.countB s ⟨#[32]⟩=(bs s).count 32:=Lib.count_one 32 (bs s);rw [e,<-pac];exact List.count_le_length
 refine ⟨Lib.splitB ⟨#[32]⟩ 0 (Lib.countB s ⟨#[32]⟩) s,⟨pjw s,fun p c=>pee _ _ _ _ c,by omega⟩,by rw [d],rfl⟩
theorem pp3 {P:List ByteArray} (h:P.length=4):∃ a b c d,P=[a,b,c,d]:=by
 match P,h with
 | [a,b,c,d],_=>exact ⟨a,b,c,d,rfl⟩
def pjK:List ByteArray:=[⟨#[112,114,111,112,111,115,101]⟩,⟨#[112,114,101,112,97,114,101]⟩,⟨#[99,111,109,109,105,116]⟩]
theorem pp4 (x):x∈pjK ↔ (bs x=kPro\/bs x=kPre\/bs x=kCom):=by
 simp only [pjK,yo,zy,uY];constructor
 · rintro (rfl | rfl | rfl)
   · exact .inl rfl
   · exact .inr (.inl rfl)
   · exact .inr (.inr rfl)
 · rintro (h | h | h)
   · exact .inl (paT h)
   · exact .inr (.inl (paT h))
   · exact .inr (.inr (paT h))
theorem prq (w g x) (h:w.heap[g]? =some (.cells #[.string ⟨#[112,114,111,112,111,115,101]⟩,.string ⟨#[112,114,101,112,97,114,101]⟩,.string ⟨#[99,111,109,109,105,116]⟩] 9 (0,0))) :
 Calls prog 205 #[.slice (some ⟨g,0,none⟩) 3 3,.string x] w (fun e w'=>e=.returned (.bool (Lib.containsS pjK x))/\w'=w):=by
 refine (Tryz.slices_Contains_string g 0 3 3 pjK x w (by decide) (by decide) ?_).mono ?_
 · intro j a;rw [yB,xa _ _ _ _ _ _ h]
   match j,a with
   | 0,_=>rfl
   | 1,_=>rfl
   | 2,_=>rfl
 · rintro e w' ⟨rfl,rfl⟩;exact ⟨rfl,rfl⟩
theorem pp5 (s) (hs:s.size<=1000000000) (w) (M:Tabs w):Calls prog 161 #[.string s] w (puw (bs s) w):=by
 have ag:=ah (pil s (by omega) w M);go_in;go_wp2_with fail;refine ag.out.mono ?_;rintro e C ⟨P,A,rfl,Q⟩;clear ag;obtain ⟨gP,G⟩:=ae (w.heap.size);rw [G];have R1:Hid (C.heap[gP]? =some (.cells (P.map Value.string).toArray 9 (0,0))):=by rw [<-G,Q];exact xi _ _
 have U1:Hid (Uq w C):=by rw [Q];exact uR.alloc _
 have av:=ah G;have H:Hid (∀ b,pbk (bs s) b->P.map bs=b.words):=fun b h=>h.words A.out.1;have ap:P.length<=4294967296:=A.out.2.2;clear Q G;by_cases U:P.length=4
 case neg =>
  have aq:¬ (P.length:Int)=4:=by omega
  have f:Hid (∀ b,¬ pbk (bs s) b):=by
   intro b h;have e:=xU List.length (H.out b h);rw [yx] at e;exact U e
  clear H A;go_wp2;go_ret2;exact ⟨_,false,.inr ⟨rfl,f.out⟩,rfl,U1.out⟩
 obtain ⟨d,o,p,a,E⟩:=pp3 U;have y:Hid (∀ b,pbk (bs s) b->bs d=b.k/\bs o=Lib.itoa b.h/\bs p=Lib.itoa b.v/\bs a=b.x):=by
  intro b h;have e:=H.out b h;rw [E] at e;simp only [zr,zU,Bal.words,um,uZ] at e;exact e
 have HW:Hid (bs s=Lib.join [bs d,bs o,bs p,bs a] [32]):=by
  have e:=A.out.1.2.2;rw [E] at e;exact e.symm
 have N:Hid (d.size<=s.size/\o.size<=s.size/\p.size<=s.size/\a.size<=s.size):=by
  have h:=A.out.2.1;rw [E] at h;exact ⟨h _ (by simp),h _ (by simp),h _ (by simp),h _ (by simp)⟩
 have RP:Hid (C.heap[gP]? =some (.cells #[.string d,.string o,.string p,.string a] 9 (0,0))):=by
  have h:=R1.out;rw [E] at h;exact h
 have aq:(P.length:Int)=4:=by omega
 subst E;clear R1 A H U ap;obtain ⟨gK,an⟩:=ae (C.heap.size);obtain ⟨w2,af⟩:=ae (C.alloc (.cells #[.string ⟨#[112,114,111,112,111,115,101]⟩,.string ⟨#[112,114,101,112,97,114,101]⟩,.string ⟨#[99,111,109,109,105,116]⟩] 9));have RK:=ah (aW an af);have Y:=aU af;have K:=ah (paa RP.out Y);have J:=ah (U1.out.trans Y);have c0:=(xa _ gP 0 _ _ _ K.out).trans (show _=some (Value.string d) from rfl);clear Y RP U1;go_wp2_with fail;refine (prq w2 gK d RK.out).mono ?_;rintro e w' ⟨rfl,rfl⟩;clear RK c0;obtain ⟨b0,R⟩:=ae (Lib.containsS pjK d);have S:Hid ((bs d=kPro\/bs d=kPre\/bs d=kCom) ↔ b0=true):=by
  show _ ↔ _;rw [<-R,Lib.containsS_iff,pp4]
 rw [R];clear R
 cases b0
 · have f:Hid (∀ b,¬ pbk (bs s) b):=fun b h=>by
    have e:=S.out.1 (by rw [(y.out b h).1];exact h.1.1)
    cases e
   go_wp2;go_ret2;exact ⟨_,false,.inr ⟨rfl,f.out⟩,rfl,J.out⟩
 have HK:Hid (bs d=kPro\/bs d=kPre\/bs d=kCom):=S.out.2 rfl;clear S;go_wp2_with fail;refine yt 3 ?_;rw [xK];have D:=(xa _ gP 1 _ _ _ K.out).trans (show _=some (Value.string o) from rfl);go_wp2_with fail;refine (pfG o _ (by have:=N.out.2.1;omega) (M.upd J.out)).mono ?_;rintro e y0 ⟨g,ok,q,ab,rfl,hq⟩;have z:=ah (J.out.trans hq);have S0:=ah (paa K.out hq);have I0:=ah ab;obtain ⟨al,am⟩:=ab;clear hq D K J
 cases ok
 · have f:Hid (∀ b,¬ pbk (bs s) b):=fun b h=>q.out.2.2 rfl ⟨b.h,(by have:=h.1.2.1;unfold pab;omega),(y.out b h).2.1⟩;clear q;go_wp2;go_ret2;exact ⟨_,false,.inr ⟨rfl,f.out⟩,rfl,z.out⟩
 have Z:Hid (bs o=Lib.itoa g):=q.out.2.1 rfl;have W:Hid (∀ b,pbk (bs s) b->0<=g/\g<=1000000000):=fun b h=>by
  have e:=paQ I0.out (by have:=h.1.2.1;unfold pab;omega) (Z.out.symm.trans (y.out b h).2.1);rw [e];exact h.1.2.1
 clear q;by_cases n:g<0
 · have f:Hid (∀ b,¬ pbk (bs s) b):=fun b h=>by have:=W.out b h;omega
   go_wp2;go_ret2;exact ⟨_,false,.inr ⟨rfl,f.out⟩,rfl,z.out⟩
 have g0:¬ g<0:=n;clear n;by_cases n:1000000000<g
 · have f:Hid (∀ b,¬ pbk (bs s) b):=fun b h=>by have:=W.out b h;omega
   go_wp2;go_ret2;exact ⟨_,false,.inr ⟨rfl,f.out⟩,rfl,z.out⟩
 have g1:¬ 1000000000<g:=n;clear n;have B0:Hid (0<=g/\g<=1000000000):=(by show _/\_;omega)
 clear W;go_wp2_with fail;clear al am;rw [xK];have D:=(xa _ gP 2 _ _ _ S0.out).trans (show _=some (Value.string p) from rfl);go_wp2_with fail;refine (pfG p _ (by have:=N.out.2.2.1;omega) (M.upd z.out)).mono ?_;rintro e y1 ⟨m,ok,q,ac,rfl,hq⟩;have t:=ah (z.out.trans hq);have S1:=ah (paa S0.out hq);have I1:=ah ac;obtain ⟨ak,aj⟩:=ac;clear hq D S0 z
 cases ok
 · have f:Hid (∀ b,¬ pbk (bs s) b):=fun b h=>q.out.2.2 rfl ⟨b.v,(by have:=h.1.2.2.1;unfold pab;omega),(y.out b h).2.2.1⟩;clear q;go_wp2;go_ret2;exact ⟨_,false,.inr ⟨rfl,f.out⟩,rfl,t.out⟩
 have M1:Hid (bs p=Lib.itoa m):=q.out.2.1 rfl;have N1:Hid (∀ b,pbk (bs s) b->0<=m/\m<=1000000000):=fun b h=>by
  have e:=paQ I1.out (by have:=h.1.2.2.1;unfold pab;omega) (M1.out.symm.trans (y.out b h).2.2.1);rw [e];exact h.1.2.2.1
 clear q;by_cases n:m<0
 · have f:Hid (∀ b,¬ pbk (bs s) b):=fun b h=>by have:=N1.out b h;omega
   go_wp2;go_ret2;exact ⟨_,false,.inr ⟨rfl,f.out⟩,rfl,t.out⟩
 have g2:¬ m<0:=n;clear n;by_cases n:1000000000<m
 · have f:Hid (∀ b,¬ pbk (bs s) b):=fun b h=>by have:=N1.out b h;omega
   go_wp2;go_ret2;exact ⟨_,false,.inr ⟨rfl,f.out⟩,rfl,t.out⟩
 have g3:¬ 1000000000<m:=n;clear n;have B1:Hid (0<=m/\m<=1000000000):=(by show _/\_;omega)
 clear N1;go_wp2_with fail;clear ak aj;rw [xK];have D:=(xa _ gP 3 _ _ _ S1.out).trans (show _=some (Value.string a) from rfl);have ax:a.size<=s.size:=N.out.2.2.2;go_upto_region 12 with (fail)
 have F:Hid (∀ b,pbk (bs s) b->2<=a.size/\a.size<=400/\a.size % 2=0/\∀ c∈bs a,c∈hx16):=fun b h=>by
  have e:=(y.out b h).2.2.2;have l:a.size=b.x.length:=by rw [<-e,pac]
  rw [l,e];exact h.1.2.2.2
 by_cases z2:a.size<2
 · have au:(a.size:Int)<2:=by omega
   have f:Hid (∀ b,¬ pbk (bs s) b):=fun b h=>by have:=F.out b h;omega
   go_wp2;go_ret2;exact ⟨_,false,.inr ⟨rfl,f.out⟩,rfl,t.out⟩
 have au:¬ (a.size:Int)<2:=by omega
 by_cases z4:400<a.size
 · have ao:400<(a.size:Int):=by omega
   have f:Hid (∀ b,¬ pbk (bs s) b):=fun b h=>by have:=F.out b h;omega
   go_wp2;go_ret2;exact ⟨_,false,.inr ⟨rfl,f.out⟩,rfl,t.out⟩
 have ao:¬ 400<(a.size:Int):=by omega
 by_cases zo:a.size % 2=0
 case neg =>
  have f:Hid (∀ b,¬ pbk (bs s) b):=fun b h=>by have:=F.out b h;omega
  have r1:IntKind.i64.wrap ((a.size:Int).tmod 2)=1:=by
   rw [xO (by omega)];exact (pam (by omega) (by omega)).trans (by omega)
  have r2:(a.size:Int).tmod 2=1:=by
   rw [xO (by omega)];omega
  go_wp2;go_ret2;exact ⟨_,false,.inr ⟨rfl,f.out⟩,rfl,t.out⟩
 have r1:IntKind.i64.wrap ((a.size:Int).tmod 2)=0:=by
  rw [xO (by omega)];exact (pam (by omega) (by omega)).trans (by omega)
 have r2:(a.size:Int).tmod 2=0:=by
  rw [xO (by omega)];omega
 go_wp2_with fail;refine (psP a (by omega) (by omega) y1).mono ?_;rintro e y2 ⟨r,X,rfl,hq⟩;have V2:=ah (t.out.trans hq);have S2:=ah (paa S1.out hq);clear hq S1 t D;by_cases B:r.size=0
 case neg =>
  have ad:¬ r.toList=[]:=fun e=>B (by rw [yi] at e;rw [<-pac];exact xU List.length e);have ay:(r.toList == [])=false:=xm.2 ad;have aw:r.toList.isEmpty=false:=by simpa using ad
  have f:Hid (∀ b,¬ pbk (bs s) b):=fun b h=>B (X.out.2 (F.out b h).2.2.2);go_wp2;go_ret2;exact ⟨_,false,.inr ⟨rfl,f.out⟩,rfl,V2.out⟩
 have hr:r=⟨#[]⟩:=paT (uk.1 (by rw [pac];exact B));have HH:=X.out.1 B;have ai:Hid (pbk (bs s) ⟨bs d,g,m,bs a⟩):=⟨⟨HK.out,B0.out,B1.out,(by show 2<=(bs a).length;rw [pac];omega),(by show (bs a).length<=400;rw [pac];omega),(by show (bs a).length % 2=0;rw [pac];exact zo),HH⟩,by rw [HW.out,Z.out,M1.out];rfl⟩
 have HJ:Hid (Lib.join ([d,o,p].map (·.data.toList)) [32]=(Bal.mk (bs d) g m (bs a)).key):=by
  show Lib.join [bs d,bs o,bs p] [32]=_;rw [Z.out,M1.out];rfl
 have aa:Hid ((Bal.mk (bs d) g m (bs a)).key.length<=100):=by
  show _<=_;have i0:=itoa_len g (by unfold pab;omega);have i1:=itoa_len m (by unfold pab;omega);have e:(Bal.mk (bs d) g m (bs a)).key=bs d ++ 32 :: (Lib.itoa g ++ 32 :: Lib.itoa m):=by
   show Lib.join [bs d,_,_] [32]=_;rw [pcG,pcG,uU];rfl
  have l0:(bs d).length<=7:=by rcases HK.out with e | e | e <;> rw [e] <;> decide
  rw [e];simp only [xr,xF];omega
 obtain ⟨KY,O⟩:=ae ((Bal.mk (bs d) g m (bs a)).key);rw [O] at HJ aa;have ar:=ah O;subst hr;clear F y HH B X O;go_wp2_with fail;have hj:=Tryz.strings_Join gP 0 4 [d,o,p] ⟨#[32]⟩ y2 (by
  intro j x u;rw [yB,xa _ _ _ _ _ _ S2.out]
  match j,u with
  | 0,u=>cases u;rfl
  | 1,u=>cases u;rfl
  | 2,u=>cases u;rfl) (paf S2.out) (by simp) (by simp) (by
  show (Lib.join (_) [32]).length<=_;have:=aa.out;rw [HJ.out];omega)
 refine hj.mono ?_;rintro e y3 ⟨rfl,hb⟩;have V3:=ah (V2.out.trans (paE hb));obtain ⟨T,hT⟩:∃ T:ByteArray,T=⟨(Lib.join ([d,o,p].map (·.data.toList)) (⟨#[32]⟩:ByteArray).data.toList).toArray⟩:=⟨_,rfl⟩
 rw [<-hT];have HT:Hid (bs T=KY):=by
  show _=_;rw [hT,pcM];exact HJ.out
 clear hj hb hT;go_wp2;go_ret2;exact ⟨T,true,.inl ⟨rfl,_,ai.out,HT.out.trans ar.out.symm⟩,rfl,V3.out⟩
end Go.Proofs.YtkhjolbbpdaplaaGreatDoor
