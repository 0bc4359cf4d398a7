/- sortesref33.Dealt and what follows. -/
import Derived.Test.YtkhjolbbpdaplaaGreatDoorHBK
namespace Go.Proofs.YtkhjolbbpdaplaaGreatDoor
set_option maxHeartbeats 4000000
open Go.RowKit Go.Proofs.Tryz
set_option maxRecDepth 100000
abbrev uB:=@List.all_toArray
def pfq (ep:Int) (d:Dl):List UInt8:=[100,101,97,108,105,110,103,32] ++ (Lib.itoa ep ++ 32 :: d.I.text)
theorem dlI_len {d} (h:pkc d):d.I.text.length<=40000:=by rw [<-pqq];exact pqr h (xj _)
theorem phI {d} (h:pkc d) {ep} (a:pab ep):(pfq ep d).length<=40100:=by
 have h1:=dlI_len h;have c:=itoa_len ep a;unfold pfq;simp only [xr,xF,zG];omega
theorem pcw {D c b p} (a:D=dlC c p b) {W g} (h:W.heap[g]? =some (.cells D 142 (0,0))):(Instr.loadAt 142 (.pointer (some ⟨g,0,none⟩))).run prog W=.ok (.agg D) W:=by
 subst a;exact dl_load (xa _ g 0 _ _ _ h) (xa _ g 1 _ _ _ h) (xa _ g 2 _ _ _ h)
theorem pqs (ep c b d w) (q:pab ep) (t:pkc d) (C:Sl w c d.coms) (B:RdS w b d.boxes):Calls prog 82 #[.int .i64 ep,.agg (dlC c (d.point:Int) b)] w (MkS (pfq ep d) w):=by
 obtain ⟨j,f⟩:=az (dlC c (d.point:Int) b);obtain ⟨g,M⟩:=ae (w.heap.size);obtain ⟨m,v⟩:=ae (w.alloc (.cells j 142));have H:=ah (aW M v);have o:=ah (aU v);have O:=ah f;have J:Hid (∀ W,Uq m W->Calls prog 158 #[.agg j] W (MkS d.I.text W)):=fun W u=>by
  rw [f];exact pnR c b d W t (C.upd (o.out.trans u)) (B.upd (o.out.trans u))
 have r:Hid (∀ W,Uq m W->(Instr.loadAt 142 (.pointer (some ⟨g,0,none⟩))).run prog W=.ok (.agg j) W):=fun W u=>pcw f (paa H.out u);have G:=ah q;have p:=ah (xf (itoa_len ep q) (dlI_len t));have y:Uq m m.drew:=uR.drew;rw [<-f];clear q t C B f;go_in;go_upto_region 1 with (fail)
 refine bH r y fun a=>?_;refine tkY 0 a ?_;refine tkL 4 a j (fun w D=>D) ?_;refine tk1 1 fun K h=>?_;go_simp;refine (paB ep _ G.out).mono ?_;rintro e U ⟨k,F,R,rfl,hq⟩;have n:=y.trans hq;clear hq;have P:¬ 9223372036854775807<8+k.size:=(by have:=p.out;omega);have T:¬ 9223372036854775807<8+k.size+1:=(by have:=p.out;omega);go_wp2_with fail;refine tkK h (r.out _ n) fun a=>?_;clear h K;refine tkS [2,3] a ?_;refine tk1 5 fun K h=>?_;go_simp;refine (J.out _ n).mono ?_;rintro e S ⟨z,E,N,rfl,hq⟩;have x:=n.trans hq;clear hq;have Q:¬ 9223372036854775807<8+k.size+1+z.size:=(by have:=p.out;omega);go_wp2_with fail;refine tkK h (r.out _ x) fun a=>?_;clear h K;refine tkS [6,7] a ?_;refine tkD ?_;go_wp2;go_ret;have A:bs (ByteArray.mk #[100,101,97,108,105,110,103,32] ++ k ++ ByteArray.mk #[32] ++ z)=pfq ep d:=by
  rw [pae,pae,pae,F.out,E.out];simp [pfq,bs]
 exact ⟨_,A,by rw [paF A];exact xj _,rfl,o.out.trans x⟩
theorem pnS (x:Nat) (c b) (d:Dl) (w) (E:x<1152921504606845789) (q:d.point<2305843009213691579):Calls prog 159 #[x,.agg (dlC c (d.point:Int) b)] w (MkN 2305843009213691579 (d.point ^ x % Pn) w):=by
 obtain ⟨g,D⟩:=ae (w.heap.size);obtain ⟨m,k⟩:=ae (w.alloc (.cells (dlC c (d.point:Int) b) 142));have A:=ah (aW D k);have y:=ah (aU k);have j:Hid (∀ W,Uq m W->W.cell? ⟨g,1,none⟩=some (.int .i64 (d.point:Int))):=fun W u=>xa _ g 1 _ _ _ (paa A.out u);obtain ⟨p,n⟩:=az (d.point);rw [<-n] at j q k ⊢;clear n;have h:Uq m m.drew:=uR.drew;have o:Hid ((x:Int) % 1152921504606845789=(x:Int)):=by show _=_;omega
 go_in;go_upto_region 1 with (fail)
 refine bH j h fun f=>?_;refine tkS [0,1,2] f ?_;refine tk1 3 fun K a=>?_;go_simp;refine (rResidue_any (x:Int) 1152921504606845789 _ (by omega) (by omega)).mono ?_;rintro e B ⟨r,v,F,G,rfl,rfl⟩;obtain rfl:r=(x:Int):=v.out.trans o.out;go_wp2_with fail;refine tkK a (j.out _ h) fun f=>?_;clear a K;refine tk1 4 fun K a=>?_;go_simp;refine (pdm p x 2305843009213691579 _ (by omega) (by omega) rfl).mono ?_;rintro e B ⟨t,C,z,rfl,rfl⟩;go_wp2_with fail;refine tkK a (j.out _ h) fun f=>?_;clear a K;refine tkY 5 f ?_;refine tkD ?_;go_wp2;go_ret;exact ⟨t,C,z,rfl,y.out.trans h⟩
def pt5 (i:Nat) (w:World) (e:Ending) (w':World):Prop:=∃ k c z:Nat,k<2305843009213691579/\c<1152921504606845789/\z<1152921504606845789/\e=.returned (.agg #[i,k,c,z])/\Upd [] [] w w'
theorem plr (i k c z):(prog.info? 48).map (·.size)=some (#[.int .i64 i,.int .i64 k,.int .i64 c,.int .i64 z]:Array Value).size:=by
 show _=some 4;kernel_rfl
theorem pkd (x i:Nat) (c b) (d:Dl) (w) (hx:x<1152921504606845789) (r:memN d.point) (R:RdS w b d.boxes) (hi:i<d.boxes.length) :
 Calls prog 83 #[x,.agg (dlC c (d.point:Int) b),i] w (pt5 i w):=by
 obtain ⟨t,f⟩:=az (dlC c (d.point:Int) b);obtain ⟨g,hg⟩:=ae (w.heap.size);obtain ⟨Q,J⟩:=ae (w.alloc (.cells t 142));have C:=aW hg J;have F:=aU J;obtain ⟨gR,H⟩:=ae (Q.heap.size);obtain ⟨m,M⟩:=ae (Q.alloc (.cells #[.int .i64 0,.int .i64 0,.int .i64 0,.int .i64 0] 48));have S:=ah (aW H M);have D:=aU M;have E:=ah (paa C D);have U1:=ah (F.trans D);obtain ⟨ba,bc,y,Y,U,_⟩:=R.form;obtain ⟨n,T⟩:=az (d.boxes.length);obtain ⟨p,o⟩:=az (d.point);rw [<-T] at y hi;have af:p<2305843009213691579:=by rw [o];exact r.2.1
 have v:Hid (∀ W,Uq m W->W.cell? ⟨g,1,none⟩=some (.int .i64 (p:Int))/\(Instr.loadAt 142 (.pointer (some ⟨g,0,none⟩))).run prog W=.ok (.agg t) W):=fun W u=>by
  have h:=paa E.out u;refine ⟨?_,pcw f h⟩;rw [xa _ g 1 _ _ _ h,f,o];rfl
 have ab:Hid (∀ W V,Uq m W->(W.setRow gR V).cell? ⟨g,1,none⟩=some (.int .i64 (p:Int))/\(Instr.loadAt 142 (.pointer (some ⟨g,0,none⟩))).run prog (W.setRow gR V)=.ok (.agg t) (W.setRow gR V)):=fun W V u=>by
  have X:g<gR:=by rw [<-H];exact paf C
  have h:=pal (paa E.out u) (Nat.ne_of_lt X) V;refine ⟨?_,pcw f h⟩;rw [xa _ g 1 _ _ _ h,f,o];rfl
 have c1:=(v.out m uR).1;have c2:m.cell? ⟨g,2,none⟩=some (.slice ba n bc):=by rw [xa _ g 2 _ _ _ E.out,f,<-y];rfl
 have P:=ah (pcX (p:Int) true m (by unfold pab;omega) (by rw [o];exact (pbG d.point).2 r));have Z:Hid (∀ W,Calls prog 159 #[x,.agg t] W (MkN 2305843009213691579 (d.point ^ x % Pn) W)):=fun W=>by
  rw [f];exact pnS x c b d W hx r.2.1
 have ac:Hid (∀ W,Calls prog 73 #[x,.int .i64 4,p] W (fun e w'=>∃ a z:Nat,a<1152921504606845789/\z<1152921504606845789/\e=.returned (.agg #[a,z])/\Uq W w')):=fun W=>by
  rw [o];refine (phv (x:Int) 4 d.point W (by omega) ⟨by decide,by decide,pfA⟩ r).mono ?_;rintro e w' ⟨a,z,_,_,B,G,rfl,hu⟩;exact ⟨a,z,B,G,rfl,hu⟩
 have HG:Hid (w.heap.size<=gR):=by have:=F.size;show _<=_;omega
 have i0:¬ (i:Int)<0:=by omega
 have i1:¬ (n:Int)<=(i:Int):=by omega
 have i2:¬ n<=i:=by omega
 rw [<-f];clear R y Y U T o f C F D r;go_in;go_wp2_with fail;refine P.out.mono ?_;rintro e w' ⟨rfl,rfl⟩;have O:Uq m m.drew:=uR.drew;clear P;go_upto_region 4 with (fail)
 refine bH v O fun k=>?_;refine tkS [0,1] k ?_;refine tkL 2 k t (fun w aa=>aa.2) ?_;refine tkS [4,5,6] k ?_;refine tk1 3 fun K j=>?_;go_simp;refine (Z.out _).mono ?_;rintro e aj ⟨A,ag,ad,rfl,hq⟩;have N:=O.trans hq;clear hq;go_wp2_with fail;refine tkK j (v.out _ N) fun k=>?_;clear j K;refine tk1 7 fun K j=>?_;go_simp;refine (ac.out _).mono ?_;rintro e ai ⟨a,z,B,G,rfl,hq⟩;have q:=N.trans hq;clear hq;go_wp2_with fail;refine tkK j (v.out _ q) fun k=>?_;clear j K;refine tkY 8 k ?_;refine tk1 9 fun K j=>?_;rw [xH (by rfl)];refine xM 48 _ _ rfl gR #[i,A,a,z] rfl rfl _ _ (paa S.out q) (plr _ _ _ _) rfl (by simp [Value.oneCell']) ?_;refine tkK j (ab.out _ _ q) fun k=>?_;clear j K;refine tkD ?_;go_wp2_with fail;exact xI (yX rfl _ _ gR _ #[i,A,a,z] _ _ rfl (xz _ _ _ _ _ _ (paa S.out q)) underlying48 rfl (plr _ _ _ _)) rfl ⟨A,a,z,ad,B,G,rfl,(U1.out.trans q).setRowNew HG.out _⟩
def BB (w:World) (g:Nat) (c:List UInt8):Prop:=∃ cur fr,w.heap[g]? =some (.cells cur 5 fr)/\c.length<=fr.1/\cur.toList.take c.length=byteVals c
theorem BB.frozen {w g c} (h:BB w g c) {j} (f:j<c.length):w.frozen? ⟨g,j,none⟩=false:=by
 obtain ⟨d,k,h1,a,e⟩:=h;simp [World.frozen?,h1];omega
theorem BB.cell {w g c} (h:BB w g c) {j b} (a:c[j]? =some b):w.cell? ⟨g,j,none⟩=some (.int .u8 (b.toNat:Int)):=by
 obtain ⟨m,n,h1,k,f⟩:=h;have d:=(xe.1 a).1;rw [xa w g j _ _ _ h1];have e:(byteVals c)[j]? =some (pbj b):=by simp [byteVals,a]
 rw [<-f,xR d] at e;simpa [pbj] using e
theorem BB.set {w g c} (h:BB w g c) {j} (p:j<c.length) (b):BB (w.setCell ⟨g,j,none⟩ (.int .u8 (b.toNat:Int))) g (c.set j b):=by
 obtain ⟨k,n,h1,o,f⟩:=h;refine ⟨k.setIfInBounds j (.int .u8 (b.toNat:Int)),n,by simp [World.setCell,Array.getElem?_modify,h1],by simpa using o,?_⟩;have e:byteVals (c.set j b)=(byteVals c).set j (.int .u8 (b.toNat:Int)):=by simp [byteVals,List.map_set,pbj]
 rw [e,<-f,zS,zI];apply List.ext_getElem?;intro i;simp only [ul,List.getElem?_set,xQ];by_cases d:i<c.length
 · rw [xH d];by_cases a:j=i
   · subst a;simp only [if_true];have m:=xU List.length f;simp only [xQ,pak] at m;rw [xH (by omega),xH (by omega)]
   · rw [yy a,yy a,xH d]
 · rw [yy d];by_cases a:j=i
   · omega
   · rw [yy a,yy d]
theorem BB.text {w g c} (h:BB w g c) (a) (f:prog.underlying a=some .string) (k):(convert 95 a (.slice (some ⟨g,0,none⟩) c.length k)).run prog w=.ok (strV c) w:=by
 obtain ⟨d,j,h1,m,e⟩:=h;have:=pbO (P:=prog) w 95 a 5 underlying95 underlying5 f g d j 5 h1 c e 0 c.length k (by omega);simpa using this
theorem BB.make (w c s) (e:prog.underlying c=some .string) (d:s.size<=maxLen):∃ k w',(convert c 95 (.string s)).run prog w=.ok (.slice (some ⟨w.heap.size,0,none⟩) s.size k) w'/\s.size<=k/\k<=maxLen/\BB w' w.heap.size (bs s)/\Uq w w':=by
 refine ⟨_,_,run_bytes_of_string (P:=prog) w c 95 5 s e underlying95 underlying5,?_,?_,⟨_,_,xi _ _,?_,?_⟩,uR.drew.alloc _⟩
 · exact grownCap_ge w s.size 0 _
 · exact grownCap_le_maxLen w s.size 0 _ d
 · simp [bytesRow,bs]
 · simp [bytesRow,bs,byteVals];intro a _;rfl
theorem pck {P} {o:Oper} {a w K Q} (c x) (e:o.op=.load c x) (b of) (d:a.eval x=.pointer (some ⟨b,of,none⟩)) (C) (f:(Instr.loadAt c (.pointer (some ⟨b,of,none⟩))).run P w=.ok (.agg C) w) (h:K (a.put o.dst (.agg C)) w):o.wp P a w K Q:=by
 unfold Oper.wp execOp;simp only [e,d,yT,f,yr];exact h
structure ChSt (w wr:World) (gC gV gQ gR:Nat) (CA EV:Array Value) (q0 q1 q2:Int):Prop where
 c:wr.heap[gC]? =some (.cells CA 36 (0,0))
 v:wr.heap[gV]? =some (.cells EV 50 (0,0))
 q:wr.heap[gQ]? =some (.cells #[q0,q1,q2] 52 (0,0))
 r:wr.heap[gR]? =some (.cells evd0.V 50 (0,0))
 up:Upd [] [] w wr
 base:w.heap.size<=gC/\gC<gV/\gV<gQ/\gQ<gR
section
variable {w wr w' : World} {gC gV gQ gR : Nat} {CA EV : Array Value} {q0 q1 q2 : Int}
theorem ChSt.quiet (h:ChSt w wr gC gV gQ gR CA EV q0 q1 q2) (u:Uq wr w'):ChSt w w' gC gV gQ gR CA EV q0 q1 q2 :=
 ⟨paa h.c u,paa h.v u,paa h.q u,paa h.r u,h.up.trans u,h.base⟩
theorem ChSt.setV (h:ChSt w wr gC gV gQ gR CA EV q0 q1 q2) (i l):ChSt w (wr.setCells gV i l) gC gV gQ gR CA (paY EV i l) q0 q1 q2:=by
 have a:=h.base;exact ⟨pax h.c (by omega),paP gV _ l i wr EV h.v,pax h.q (by omega),pax h.r (by omega),Upd.setCellsNew (by omega) l i _ h.up,h.base⟩
theorem ChSt.other (h:ChSt w wr gC gV gQ gR CA EV q0 q1 q2) {g} (a:gR<g) (i v):ChSt w (wr.setCell ⟨g,i,none⟩ v) gC gV gQ gR CA EV q0 q1 q2:=by
 have d:=h.base;exact ⟨pai h.c (by omega),pai h.v (by omega),pai h.q (by omega),pai h.r (by omega),h.up.setNew (p:=⟨g,i,none⟩) (by show w.heap.size<=g;omega) _,h.base⟩
end
structure DlB (B:Nat) (W:World) (c:Value) (gb bc:Nat) (cur:Array Value) (d:Dl):Prop where
 com:W.ownsRow 0 3 1 c d.coms.length (pah d.coms)
 box:W.heap[gb]? =some (.cells cur 9 (0,0))
 len:d.boxes.length<=bc/\bc<=maxLen/\cur.size=bc
 get:cur.toList.take d.boxes.length=pbD d.boxes
 base:B<=gb
theorem DlB.upd {B W f c g e a d} (h:DlB B W c g e a d) (u:Uq W f):DlB B f c g e a d:=⟨pdE h.com u,paa h.box u,h.len,h.get,h.base⟩
theorem DlB.rds {B W c a f j d} (h:DlB B W c a f j d):RdS W (.slice (some ⟨a,0,none⟩) d.boxes.length f) d.boxes:=by
 refine ⟨_,f,rfl,h.len.1,h.len.2.1,fun k x g=>⟨a,rfl,paf h.box,?_⟩⟩;have m:=(xe.1 g).1;rw [xa W a k _ _ _ h.box];have e:(pbD d.boxes)[k]? =some (strV x):=by simp [pbD,g]
 rw [<-h.get,xR m] at e;simpa using e
theorem DlB.keep {B W t c k q o d} {g:Nat} {Z} (h:DlB B W c k q o d) (m:W.heap[g]? =some (.cells Z 142 (0,0))) (j:∀ x,x≠g->t.heap[x]? =W.heap[x]?):DlB B t c k q o d:=by
 refine ⟨?_,(j k ?_).trans h.box,h.len,h.get,h.base⟩
 · by_cases h0:d.coms.length=0
   · have D:pah d.coms=[]:=by rw [ze h0];rfl
     obtain ⟨z,y,A,h1,C⟩:=pan h.com;refine paj h.com (fun x a=>j x ?_);intro f;rcases h.com.2 with ⟨rfl,_⟩ | ⟨w,v,u,rfl,_,r⟩
     · cases a
     · simp [foot,Value.ownBlock] at a;subst a;rw [f,m] at r;have:=r.1;simp at this
   · obtain ⟨w,v,u,rfl,n,_⟩:=pca h.com (by omega);refine paj h.com (fun x a=>j x ?_);intro f;simp [foot,Value.ownBlock] at a;subst a;rw [f,m] at n;simp at n
 · intro e;have p:=h.box;rw [e,m] at p;simp at p
theorem DlB.setBox {B W c a m g d} (h:DlB B W c a m g d) {n} (_hn:n<d.boxes.length) (x):DlB B (W.setCell ⟨a,n,none⟩ (.string x)) c a m (g.setIfInBounds n (.string x)) { d with boxes:=d.boxes.set n (bs x) }:=by
 refine ⟨?_,xg _ _ _ _ _ _ h.box,⟨by simp [h.len.1],h.len.2.1,by simp [h.len.2.2]⟩,?_,h.base⟩
 · refine paj h.com (fun y f=>?_);have q:y≠a:=by
    rcases h.com.2 with ⟨rfl,_⟩ | ⟨v,u,t,rfl,_,r⟩
    · cases f
    · intro e;simp [foot,Value.ownBlock] at f;subst f;have j:=r.1;rw [e,h.box] at j;simp at j
   have p:=pag h.com y f;obtain ⟨o,k⟩:∃ o,W.heap[y]? =some o:=⟨_,yv p⟩
   rw [pai k q,k]
 · have e:pbD (d.boxes.set n (bs x))=(pbD d.boxes).set n (.string x):=by
    have:strV (bs x)=.string x:=by simp [strV,bs]
    simp [pbD,List.map_set,this]
   show List.take (d.boxes.set n (bs x)).length _=_;rw [zS,e,<-h.get,zI,List.take_set]
theorem pns.elem {B:Nat} {w:World} {u:Value} {ds:List Dl} (h:pns B w u ds) {k:Nat} {d:Dl} (n:ds[k]? =some d) (E:0<d.boxes.length):∃ g f c a j o,u=.slice (some ⟨g,0,none⟩) ds.length f/\ds.length<=f/\g<w.heap.size/\w.cell? ⟨g,k * 3,none⟩=some c/\w.cell? ⟨g,k * 3+1,none⟩=some (.int .i64 (d.point:Int))/\w.cell? ⟨g,k * 3+2,none⟩=some (.slice (some ⟨a,0,none⟩) d.boxes.length j)/\DlB B w c a j o d:=by
 obtain ⟨cb,h1,t,O⟩:=h;have Q:=(xe.1 n).1;obtain ⟨g,f,o,rfl,m,J,R,N,F⟩:=pca h1 (by omega);obtain ⟨p,q⟩:∃ p,cb[k]? =some p:=⟨_,xd (by rw [t.1];omega)⟩
 obtain ⟨C,H,M⟩:=t.2 k d p n q;obtain ⟨a,j,y,e,A,G,K,P,D⟩:=pca H E;obtain ⟨r,x,v⟩:=pe4 k d p n q;rw [<-F,xR (by omega)] at r x v;have z:=(M a (.inr (by rw [e];simp [foot,Value.ownBlock]))).2;rw [yq,not_or,uv] at z;refine ⟨g,f,p.1,a,j,y,rfl,J,paf m,(xa w g (k * 3) _ _ _ m).trans (by simpa using r),(xa w g (k * 3+1) _ _ _ m).trans (by simpa using x),?_,⟨C,A,⟨G,K,by omega⟩,by simpa using D,by omega⟩⟩;rw [<-e];exact (xa w g (k * 3+2) _ _ _ m).trans (by simpa using v)
theorem DlB.mono {B B' W c f e a d} (h:DlB B W c f e a d) (g:B'<=B):DlB B' W c f e a d:=⟨h.com,h.box,h.len,h.get,xB g h.base⟩
theorem pmy {ws n k m s t} (c:ws.length=n) (e:k<m) (d:n=m) (a:s=t):(dsN ws s ws.length)[k]? =some (dlAt ws t k):=by
 subst a;have:k<ws.length:=by omega
 simp [dsN,this]
theorem peJ {ws} (c:WsOk ws) (a k):phD (dlAt ws a k) ws.sum/\(dlAt ws a k).coms.length=needN ws.sum:=pik c a (k+1) _ (by simp [dsN,List.range_succ])
theorem pd2 {ws} (c:WsOk ws) (a k):0<(dlAt ws a k).boxes.length:=by
 have h:=(peJ c a k).1.2.2.2.2.1;have:=c.sum;omega
theorem DlB.one {B W c g f a d} (h:DlB B W c g f a d):c.oneCell'=true:=by
 obtain ⟨k,j,e,_,_⟩:=pan h.com;rw [e];rfl
theorem pgL {c b p} (h1:c.oneCell'=true) (a:b.oneCell'=true):(dlC c p b).all (·.oneCell')=true:=by simp only [dlC,uB,List.all_cons,h1,a];rfl
theorem prH {ws} (c:WsOk ws) (a k):(dlAt ws a k).boxes.length=ws.sum/\∀ b∈(dlAt ws a k).boxes,b.length=16:=⟨(peJ c a k).1.2.2.2.2.1,(peJ c a k).1.2.2.2.2.2⟩
theorem DlB.foot_lt {B W c f e a d} (h:DlB B W c f e a d):∀ x,x∈foot c->x<W.heap.size:=pag h.com
theorem DlB.setOther {B W c a k e d} (h:DlB B W c a k e d) {g} (h1:∀ x,x∈foot c->x≠g) (n:a≠g) (i v):DlB B (W.setCell ⟨g,i,none⟩ v) c a k e d:=by
 refine ⟨paj h.com (fun y j=>?_),pai h.box n,h.len,h.get,h.base⟩;have m:=pag h.com y j;obtain ⟨o,f⟩:∃ o,W.heap[y]? =some o:=⟨_,yv m⟩
 rw [pai f (h1 y j),f]
theorem DlB.setOthers {B W c f m j d} (h:DlB B W c f m j d) {g} (u:f≠g) (t:∀ {x:Nat} (_:x=g) (C:Array Value),W.heap[x]? ≠ some (.cells C 3 (0,0))) (i l):DlB B (W.setCells g i l) c f m j d:=by
 refine ⟨paj h.com (fun y a=>?_),pax h.box u,h.len,h.get,h.base⟩;have q:y≠g:=by
  intro e;rcases h.com.2 with ⟨rfl,_⟩ | ⟨w,v,n,rfl,_,r⟩
  · cases a
  · simp [foot,Value.ownBlock] at a;subst a;exact t e n r.1
 have p:=pag h.com y a;obtain ⟨o,k⟩:∃ o,W.heap[y]? =some o:=⟨_,yv p⟩
 rw [pax k q,k]
end Go.Proofs.YtkhjolbbpdaplaaGreatDoor
