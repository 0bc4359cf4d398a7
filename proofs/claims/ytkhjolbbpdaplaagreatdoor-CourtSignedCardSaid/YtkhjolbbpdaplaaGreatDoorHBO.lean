/- sortesref33.Bent: what is left of an evidence in which one thing is changed and what follows. -/
import Derived.Test.YtkhjolbbpdaplaaGreatDoorHBN
namespace Go.Proofs.YtkhjolbbpdaplaaGreatDoor
set_option maxHeartbeats 8000000
open Go.RowKit Go.Proofs.Tryz
set_option maxRecDepth 100000
structure EvOk (L:Nat) (X:EvdG):Prop where
 k:pab X.kind/\pab X.who
 a:pab X.aw/\pab X.ar/\pab X.as'
 b:pab X.bw/\pab X.br/\pab X.bs'
 l:pab X.low/\pab X.high
 c:pab X.ci/\pab X.ck/\pab X.c1/\pab X.c2
 ta:X.aT.size<=L
 tb:X.bT.size<=L
 n:∃ x y,bs X.F=be x/\bs X.A=be y/\x<1000/\y<=1000000
def MkBt (L:Nat) (w:World) (e:Ending) (w':World):Prop:=∃ Y:EvdG,Hid (EvOk L Y)/\e=.returned (.agg Y.V)/\Upd [] [] w w'
theorem pcx {w W} {gE gR:Nat} (Y:EvdG) (g:W.heap[gE]? =some (.cells Y.V 50 (0,0))) (d:W.heap[gR]? =some (.cells evd0.V 50 (0,0))) (f:Uq w W) (e:w.heap.size<=gR) :
 ∃ a c,Hid (a=Y.V)/\Fr W gE a 50/\Fr W gR evd0.V 50/\Hid (W.setRow gR a=c)/\Fr c gR a 50/\Hid (Uq w c)/\Fi 50 a/\Fo a/\Hid (evd0.V.size=a.size) :=
 ⟨Y.V,_,rfl,g,d,rfl,xz _ _ _ _ _ _ d,f.setRowNew e _,Y.info,Y.one,rfl⟩
theorem pmB:evd0.V=zZ1:=rfl
theorem phJ {X:EvdG} {g o l T d W} (h:W.heap[g]? =some (.cells X.V 50 (0,0))) (e:(X.L.drop o).take l.length=l) (f:prog.underlying T=some (.struct d)) (c:(prog.info? T).map (·.size)=some l.length):(Instr.loadAt T (.pointer (some ⟨g,o,none⟩))).run prog W=.ok (.agg l.toArray) W :=
 xL W g o T l _ (fun j v a=>(xa _ g (o+j) _ _ _ h).trans (by
  have k:=(xe.1 a).1
  rw [<-e,xR k,zL] at a
  simpa [EvdG.V] using a)) f rfl c
theorem pmC {X Y:EvdG} {w W gE gR} (o l) (h:W.heap[gE]? =some (.cells X.V 50 (0,0))) (d:W.heap[gR]? =some (.cells evd0.V 50 (0,0))) (c:gR≠gE) (g:paY X.V o l=Y.V) (e:o+l.length<=19) (j:Uq w W) (f:w.heap.size<=gE) :
 ∃ a,Hid (W.setCells gE o l=a)/\Hid (W.there gE o l.length)/\Fr a gE Y.V 50/\Fr a gR evd0.V 50/\Hid (Uq w a) :=
 ⟨_,rfl,pay h e,by show _=_;rw [<-g];exact paP gE _ l o W _ h,pax d c,Upd.setCellsNew f l o _ j⟩
theorem pmD (L X q0 N w) (hX:EvOk L X) (h0:pab q0) (h1:pab N) (hL:L<=1000000):Calls prog 7 #[.agg X.V,.agg #[.int .i64 q0,.int .i64 N]] w (MkBt (L+1) w):=by
 obtain ⟨U,aq⟩:=az (X.V);obtain ⟨gE,aS⟩:=ae (w.heap.size);obtain ⟨w0,aD⟩:=ae (w.alloc (.cells U 50));have r0:=aW aS aD;have u0:=aU aD;obtain ⟨gQ,aY⟩:=ae (w0.heap.size);obtain ⟨w1,aJ⟩:=ae (w0.alloc (.cells #[q0,N] 24));have r1:=aW aY aJ;have u1:=aU aJ;obtain ⟨gR,aQ⟩:=ae (w1.heap.size);obtain ⟨g,ao⟩:=ae (w1.alloc (.cells evd0.V 50));have r2:=aW aQ ao;have u2:=aU ao;have hb1:=paf r0;have bb:=paf r1;have M:Hid (gE≠gR/\gE<gQ/\gQ<gR):=by show _/\_/\_;omega
 have o:Hid (w.heap.size<=gR/\w.heap.size<=gE):=by show _/\_;omega
 have h:=ah (paa (paa r0 u1) u2);have RQ:=ah (paa r1 u2);have K:=ah r2;have J:=ah ((u0.trans u1).trans u2);have HM:=ah (fun (a m:Int) (ha:pab a) (hm:1<=m/\m<=4611686018427387903)=>pbC a m g ha hm);have H:=ah hX;have j:=ah aq;have aj:=ah (xf h0 h1);rw [<-aq];have c0:g.cell? ⟨gQ,0,none⟩=some (.int .i64 q0):=xa _ gQ 0 _ _ _ RQ.out;have c1:g.cell? ⟨gQ,1,none⟩=some (.int .i64 N):=xa _ gQ 1 _ _ _ RQ.out;have aL:=ao;rw [pmB] at aL;clear r0 u0 r1 u1 r2 u2 hX h0 h1 aq hb1 bb ao;go_in;go_wp2_with fail;refine (HM.out q0 14 aj.out.1 (by omega)).mono ?_;rintro e w' ⟨r,Z,r0,r1,rfl,rfl⟩;clear Z;rcases (by omega:r=0\/r=1\/r=2\/r=3\/r=4\/r=13\/r=5\/r=6\/r=7\/r=8\/r=9\/r=10\/r=11\/r=12) with rfl | rfl | rfl | rfl | rfl | rfl | rfl | rfl | rfl | rfl | rfl | rfl | rfl | rfl
 · have ce:g.cell? ⟨gE,0,none⟩=some (.int .i64 X.kind):=(xa _ gE 0 _ _ _ h.out).trans (by rw [j.out];rfl);have fz:=xp g gE 0 _ _ h.out;go_wp2_with fail;refine (HM.out N 10 aj.out.2 (by omega)).mono ?_;rintro e w' ⟨y,Z,y0,y1,rfl,rfl⟩;clear Z;obtain ⟨O,P,q,E,G,t,D,u,f,C,v⟩:=pcx (w:=w) (W:=g.setCell ⟨gE,0,none⟩ (.int .i64 y)) (gE:=gE) (gR:=gR) ({ X with kind:=y }:EvdG) (by rw [show (({ X with kind:=y }:EvdG)).V=U.setIfInBounds 0 (.int .i64 y) by rw [j.out];rfl];exact xg _ _ _ _ _ _ h.out) (pai K.out (by have:=M.out;omega)) (J.out.setNew (p:=⟨gE,0,none⟩) o.out.2 _) o.out.1;go_wp2_with (first | (refine bL E underlying50 f ?_) | (refine bS G f v C t ?_))
   refine bE D underlying50 f ⟨({ X with kind:=y }:EvdG),?_,by rw [q.out],u.out⟩;have d:=H.out;exact { d with k:=⟨(by show pab y;unfold pab;omega),d.k.2⟩,ta:=by have:=d.ta;show X.aT.size<=_;omega,tb:=by have:=d.tb;show X.bT.size<=_;omega }
 · have ce:g.cell? ⟨gE,1,none⟩=some (.int .i64 X.who):=(xa _ gE 1 _ _ _ h.out).trans (by rw [j.out];rfl);have fz:=xp g gE 1 _ _ h.out;go_wp2_with fail;refine (HM.out N 80 aj.out.2 (by omega)).mono ?_;rintro e w' ⟨y,Z,y0,y1,rfl,rfl⟩;clear Z;obtain ⟨O,P,q,E,G,t,D,u,f,C,v⟩:=pcx (w:=w) (W:=g.setCell ⟨gE,1,none⟩ (.int .i64 y)) (gE:=gE) (gR:=gR) ({ X with who:=y }:EvdG) (by rw [show (({ X with who:=y }:EvdG)).V=U.setIfInBounds 1 (.int .i64 y) by rw [j.out];rfl];exact xg _ _ _ _ _ _ h.out) (pai K.out (by have:=M.out;omega)) (J.out.setNew (p:=⟨gE,1,none⟩) o.out.2 _) o.out.1;go_wp2_with (first | (refine bL E underlying50 f ?_) | (refine bS G f v C t ?_))
   refine bE D underlying50 f ⟨({ X with who:=y }:EvdG),?_,by rw [q.out],u.out⟩;have d:=H.out;exact { d with k:=⟨d.k.1,(by show pab y;unfold pab;omega)⟩,ta:=by have:=d.ta;show X.aT.size<=_;omega,tb:=by have:=d.tb;show X.bT.size<=_;omega }
 · have ce:g.cell? ⟨gE,2,none⟩=some (.int .i64 X.aw):=(xa _ gE 2 _ _ _ h.out).trans (by rw [j.out];rfl);have fz:=xp g gE 2 _ _ h.out;obtain ⟨y,hy⟩:=ae (IntKind.i64.wrap (X.aw+1));have HY:Hid (pab y):=by show pab y;rw [<-hy];exact pbq _
   obtain ⟨O,P,q,E,G,t,D,u,f,C,v⟩:=pcx (w:=w) (W:=g.setCell ⟨gE,2,none⟩ (.int .i64 y)) (gE:=gE) (gR:=gR) ({ X with aw:=y }:EvdG) (by rw [show (({ X with aw:=y }:EvdG)).V=U.setIfInBounds 2 (.int .i64 y) by rw [j.out];rfl];exact xg _ _ _ _ _ _ h.out) (pai K.out (by have:=M.out;omega)) (J.out.setNew (p:=⟨gE,2,none⟩) o.out.2 _) o.out.1;go_wp2_with (first | (refine bL E underlying50 f ?_) | (refine bS G f v C t ?_))
   refine bE D underlying50 f ⟨({ X with aw:=y }:EvdG),?_,by rw [q.out],u.out⟩;have d:=H.out;exact { d with a:=⟨HY.out,d.a.2⟩,ta:=by have:=d.ta;show X.aT.size<=_;omega,tb:=by have:=d.tb;show X.bT.size<=_;omega }
 · have ce:g.cell? ⟨gE,6,none⟩=some (.int .i64 X.bw):=(xa _ gE 6 _ _ _ h.out).trans (by rw [j.out];rfl);have fz:=xp g gE 6 _ _ h.out;obtain ⟨y,hy⟩:=ae (IntKind.i64.wrap (X.bw+1));have HY:Hid (pab y):=by show pab y;rw [<-hy];exact pbq _
   obtain ⟨O,P,q,E,G,t,D,u,f,C,v⟩:=pcx (w:=w) (W:=g.setCell ⟨gE,6,none⟩ (.int .i64 y)) (gE:=gE) (gR:=gR) ({ X with bw:=y }:EvdG) (by rw [show (({ X with bw:=y }:EvdG)).V=U.setIfInBounds 6 (.int .i64 y) by rw [j.out];rfl];exact xg _ _ _ _ _ _ h.out) (pai K.out (by have:=M.out;omega)) (J.out.setNew (p:=⟨gE,6,none⟩) o.out.2 _) o.out.1;go_wp2_with (first | (refine bL E underlying50 f ?_) | (refine bS G f v C t ?_))
   refine bE D underlying50 f ⟨({ X with bw:=y }:EvdG),?_,by rw [q.out],u.out⟩;have d:=H.out;exact { d with b:=⟨HY.out,d.b.2⟩,ta:=by have:=d.ta;show X.aT.size<=_;omega,tb:=by have:=d.tb;show X.bT.size<=_;omega }
 · have ce:g.cell? ⟨gE,5,none⟩=some (.int .i64 X.as'):=(xa _ gE 5 _ _ _ h.out).trans (by rw [j.out];rfl);have fz:=xp g gE 5 _ _ h.out;obtain ⟨z,hz⟩:=ae (IntKind.i64.wrap (X.as'+1));have HZ:Hid (pab z):=by show pab z;rw [<-hz];exact pbq _
   go_wp2_with fail;refine (HM.out z 1152921504606845789 HZ.out (by omega)).mono ?_;rintro e w' ⟨y,Z,y0,y1,rfl,rfl⟩;clear Z hz;obtain ⟨O,P,q,E,G,t,D,u,f,C,v⟩:=pcx (w:=w) (W:=g.setCell ⟨gE,5,none⟩ (.int .i64 y)) (gE:=gE) (gR:=gR) ({ X with as':=y }:EvdG) (by rw [show (({ X with as':=y }:EvdG)).V=U.setIfInBounds 5 (.int .i64 y) by rw [j.out];rfl];exact xg _ _ _ _ _ _ h.out) (pai K.out (by have:=M.out;omega)) (J.out.setNew (p:=⟨gE,5,none⟩) o.out.2 _) o.out.1;go_wp2_with (first | (refine bL E underlying50 f ?_) | (refine bS G f v C t ?_))
   refine bE D underlying50 f ⟨({ X with as':=y }:EvdG),?_,by rw [q.out],u.out⟩;have d:=H.out;exact { d with a:=⟨d.a.1,d.a.2.1,(by show pab y;unfold pab;omega)⟩,ta:=by have:=d.ta;show X.aT.size<=_;omega,tb:=by have:=d.tb;show X.bT.size<=_;omega }
 · have ce:g.cell? ⟨gE,18,none⟩=some (.int .i64 X.c2):=(xa _ gE 18 _ _ _ h.out).trans (by rw [j.out];rfl);have fz:=xp g gE 18 _ _ h.out;obtain ⟨z,hz⟩:=ae (IntKind.i64.wrap (X.c2+1));have HZ:Hid (pab z):=by show pab z;rw [<-hz];exact pbq _
   go_wp2_with fail;refine (HM.out z 1152921504606845789 HZ.out (by omega)).mono ?_;rintro e w' ⟨y,Z,y0,y1,rfl,rfl⟩;clear Z hz;obtain ⟨O,P,q,E,G,t,D,u,f,C,v⟩:=pcx (w:=w) (W:=g.setCell ⟨gE,18,none⟩ (.int .i64 y)) (gE:=gE) (gR:=gR) ({ X with c2:=y }:EvdG) (by rw [show (({ X with c2:=y }:EvdG)).V=U.setIfInBounds 18 (.int .i64 y) by rw [j.out];rfl];exact xg _ _ _ _ _ _ h.out) (pai K.out (by have:=M.out;omega)) (J.out.setNew (p:=⟨gE,18,none⟩) o.out.2 _) o.out.1;go_wp2_with (first | (refine bL E underlying50 f ?_) | (refine bS G f v C t ?_))
   refine bE D underlying50 f ⟨({ X with c2:=y }:EvdG),?_,by rw [q.out],u.out⟩;have d:=H.out;exact { d with c:=⟨d.c.1,d.c.2.1,d.c.2.2.1,(by show pab y;unfold pab;omega)⟩,ta:=by have:=d.ta;show X.aT.size<=_;omega,tb:=by have:=d.tb;show X.bT.size<=_;omega }
 · skip
   obtain ⟨SG,Q⟩:=az (([.int .i64 X.ar,.int .i64 X.as']:List Value).toArray);have HL:Hid ((Instr.loadAt 39 (.pointer (some ⟨gE,4,none⟩))).run prog g=.ok (.agg SG) g):=by rw [Q];exact phJ (X:=X) (by rw [<-j.out];exact h.out) rfl underlying39 (by kernel_rfl)
   obtain ⟨R,W3,TH,ab,ai,U3⟩:=pmC (X:=X) (Y:=({ X with br:=X.ar,bs':=X.as' }:EvdG)) (w:=w) (W:=g) 8 [.int .i64 X.ar,.int .i64 X.as'] (by rw [<-j.out];exact h.out) K.out (by have:=M.out;omega) rfl (by simp) J.out o.out.2;have aB:Fi 39 SG:=by rw [Q];show _=some 2;kernel_rfl
   have av:Fo SG:=by rw [Q];show _=_;simp [Value.oneCell']
   have ax:Hid (g.setCells gE 8 SG.toList=R):=by rw [Q];exact W3.out
   have au:Hid (g.there gE 8 SG.size):=by rw [Q];exact TH.out
   clear Q W3 TH;obtain ⟨O,P,q,E,G,t,D,u,f,C,v⟩:=pcx ({ X with br:=X.ar,bs':=X.as' }:EvdG) ab.out ai.out U3.out o.out.1;go_wp2_with (first | (refine bA HL ?_) | (refine bM au aB av ax ?_) | (refine bL E underlying50 f ?_) | (refine bS G f v C t ?_))
   refine bE D underlying50 f ⟨({ X with br:=X.ar,bs':=X.as' }:EvdG),?_,by rw [q.out],u.out⟩;have d:=H.out;exact { d with b:=⟨d.b.1,d.a.2⟩,ta:=by have:=d.ta;show X.aT.size<=_;omega,tb:=by have:=d.tb;show X.bT.size<=_;omega }
 · skip
   obtain ⟨SG,Q⟩:=az (([.int .i64 X.aw,.string X.aT,.int .i64 X.ar,.int .i64 X.as']:List Value).toArray);have HL:Hid ((Instr.loadAt 41 (.pointer (some ⟨gE,2,none⟩))).run prog g=.ok (.agg SG) g):=by rw [Q];exact phJ (X:=X) (by rw [<-j.out];exact h.out) rfl underlying41 (by kernel_rfl)
   obtain ⟨R,W3,TH,ab,ai,U3⟩:=pmC (X:=X) (Y:=({ X with bw:=X.aw,bT:=X.aT,br:=X.ar,bs':=X.as' }:EvdG)) (w:=w) (W:=g) 6 [.int .i64 X.aw,.string X.aT,.int .i64 X.ar,.int .i64 X.as'] (by rw [<-j.out];exact h.out) K.out (by have:=M.out;omega) rfl (by simp) J.out o.out.2;have aB:Fi 41 SG:=by rw [Q];show _=some 4;kernel_rfl
   have av:Fo SG:=by rw [Q];show _=_;simp [Value.oneCell']
   have ax:Hid (g.setCells gE 6 SG.toList=R):=by rw [Q];exact W3.out
   have au:Hid (g.there gE 6 SG.size):=by rw [Q];exact TH.out
   clear Q W3 TH;obtain ⟨O,P,q,E,G,t,D,u,f,C,v⟩:=pcx ({ X with bw:=X.aw,bT:=X.aT,br:=X.ar,bs':=X.as' }:EvdG) ab.out ai.out U3.out o.out.1;go_wp2_with (first | (refine bA HL ?_) | (refine bM au aB av ax ?_) | (refine bL E underlying50 f ?_) | (refine bS G f v C t ?_))
   refine bE D underlying50 f ⟨({ X with bw:=X.aw,bT:=X.aT,br:=X.ar,bs':=X.as' }:EvdG),?_,by rw [q.out],u.out⟩;have d:=H.out;exact { d with b:=d.a,ta:=by have:=d.ta;show X.aT.size<=_;omega,tb:=by have:=d.ta;show X.aT.size<=_;omega }
 · skip
   obtain ⟨aa,ad⟩:=az (([.int .i64 X.aw,.string X.aT,.int .i64 X.ar,.int .i64 X.as']:List Value).toArray);obtain ⟨al,af⟩:=az (([.int .i64 X.bw,.string X.bT,.int .i64 X.br,.int .i64 X.bs']:List Value).toArray);obtain ⟨R,Z3,W3,R3,an⟩:=paz g 41 #[.int .i64 0,.string ⟨#[]⟩,.int .i64 0,.int .i64 0] aa;obtain ⟨gV,a0⟩:=ae (g.heap.size);rw [a0] at Z3 W3 R3;have aH:gV≠gE:=by have:=paf h.out;omega
   have aA:Fi 41 aa:=by rw [ad];show _=some 4;kernel_rfl
   have aK:Fo aa:=by rw [ad];show _=_;simp [Value.oneCell']
   have bf:Fi 41 al:=by rw [af];show _=some 4;kernel_rfl
   have ba:Fo al:=by rw [af];show _=_;simp [Value.oneCell']
   have a9:Hid ((#[.int .i64 0,.string ⟨#[]⟩,.int .i64 0,.int .i64 0]:Array Value).size=aa.size):=by rw [ad];rfl
   have a6:Hid ((Instr.loadAt 41 (.pointer (some ⟨gE,2,none⟩))).run prog g=.ok (.agg aa) g):=by rw [ad];exact phJ (X:=X) (by rw [<-j.out];exact h.out) rfl underlying41 (by kernel_rfl)
   have aR:Hid ((Instr.loadAt 41 (.pointer (some ⟨gE,6,none⟩))).run prog R=.ok (.agg al) R):=by rw [af];exact phJ (X:=X) (by rw [<-j.out];exact paa h.out an) rfl underlying41 (by kernel_rfl)
   obtain ⟨S,W4,aF,ak,ap,U4⟩:=pmC (X:=X) (Y:=({ X with aw:=X.bw,aT:=X.bT,ar:=X.br,as':=X.bs' }:EvdG)) (w:=w) (W:=R) 2 [.int .i64 X.bw,.string X.bT,.int .i64 X.br,.int .i64 X.bs'] (by rw [<-j.out];exact paa h.out an) (paa K.out an) (by have:=M.out;omega) rfl (by simp) (J.out.trans an) o.out.2;have R4:Fr S gV aa 41:=by show _=_;rw [<-W4.out];exact pax R3.out aH
   obtain ⟨w5,W5,aG,bd,a5,U5⟩:=pmC (X:=({ X with aw:=X.bw,aT:=X.bT,ar:=X.br,as':=X.bs' }:EvdG)) (Y:=({ X with aw:=X.bw,aT:=X.bT,ar:=X.br,as':=X.bs',bw:=X.aw,bT:=X.aT,br:=X.ar,bs':=X.as' }:EvdG)) (w:=w) (W:=S) 6 [.int .i64 X.aw,.string X.aT,.int .i64 X.ar,.int .i64 X.as'] ak.out ap.out (by have:=M.out;omega) rfl (by simp) U4.out o.out.2;have a2:Hid (R.setCells gE 2 al.toList=S):=by rw [af];exact W4.out
   have aM:Hid (R.there gE 2 al.size):=by rw [af];exact aF.out
   have bc:Hid (S.setCells gE 6 aa.toList=w5):=by rw [ad];exact W5.out
   have aN:Hid (S.there gE 6 aa.size):=by rw [ad];exact aG.out
   clear ad af W4 aF W5 aG an R3 ak ap U4 aH;obtain ⟨O,P,q,E,G,t,D,u,f,C,v⟩:=pcx ({ X with aw:=X.bw,aT:=X.bT,ar:=X.br,as':=X.bs',bw:=X.aw,bT:=X.aT,br:=X.ar,bs':=X.as' }:EvdG) bd.out a5.out U5.out o.out.1;go_wp2_with (first | (refine bA a6 ?_) | (refine bS Z3 aA a9 aK W3 ?_) | (refine bA aR ?_) | (refine bM aM bf ba a2 ?_) | (refine bL R4 underlying41 aA ?_) | (refine bM aN aA aK bc ?_) | (refine bL E underlying50 f ?_) | (refine bS G f v C t ?_))
   refine bE D underlying50 f ⟨({ X with aw:=X.bw,aT:=X.bT,ar:=X.br,as':=X.bs',bw:=X.aw,bT:=X.aT,br:=X.ar,bs':=X.as' }:EvdG),?_,by rw [q.out],u.out⟩;have d:=H.out;exact { d with a:=d.b,b:=d.a,ta:=by have:=d.tb;show X.bT.size<=_;omega,tb:=by have:=d.ta;show X.aT.size<=_;omega }
 · have ce:g.cell? ⟨gE,3,none⟩=some (.string X.aT):=(xa _ gE 3 _ _ _ h.out).trans (by rw [j.out];rfl);have fz:=xp g gE 3 _ _ h.out;have ag:=H.out.ta;have hs:¬ 9223372036854775807<X.aT.size+1:=by omega
   obtain ⟨O,P,q,E,G,t,D,u,f,C,v⟩:=pcx (w:=w) (W:=g.setCell ⟨gE,3,none⟩ (.string (X.aT ++ ByteArray.mk #[32]))) (gE:=gE) (gR:=gR) ({ X with aT:=X.aT ++ ByteArray.mk #[32] }:EvdG) (by rw [show (({ X with aT:=X.aT ++ ByteArray.mk #[32] }:EvdG)).V=U.setIfInBounds 3 (.string (X.aT ++ ByteArray.mk #[32])) by rw [j.out];rfl];exact xg _ _ _ _ _ _ h.out) (pai K.out (by have:=M.out;omega)) (J.out.setNew (p:=⟨gE,3,none⟩) o.out.2 _) o.out.1;have a8:Hid ((X.aT ++ ByteArray.mk #[32]).size<=L+1):=by show _<=_;rw [xT];show X.aT.size+1<=_;omega
   clear ag;go_wp2_with (first | (refine bL E underlying50 f ?_) | (refine bS G f v C t ?_))
   refine bE D underlying50 f ⟨({ X with aT:=X.aT ++ ByteArray.mk #[32] }:EvdG),?_,by rw [q.out],u.out⟩;have d:=H.out;exact { d with ta:=a8.out,tb:=by have:=d.tb;show X.bT.size<=_;omega }
 · obtain ⟨T,hT⟩:=az (X.aT);have ce:g.cell? ⟨gE,3,none⟩=some (.string T):=(xa _ gE 3 _ _ _ h.out).trans (by rw [j.out,hT];rfl);have fz:=xp g gE 3 _ _ h.out;have ag:=H.out.ta;rw [<-hT] at ag;have HT:=ah (xf hT ag);clear hT;by_cases g0:0<T.size
   case neg =>
    have a7:¬ (0:Int)<(T.size:Int):=by omega
    obtain ⟨O,P,q,E,G,t,D,u,f,C,v⟩:=pcx (w:=w) (W:=g) (gE:=gE) (gR:=gR) X (by rw [<-j.out];exact h.out) K.out J.out o.out.1;clear ag;go_wp2_with (first | (refine bL E underlying50 f ?_) | (refine bS G f v C t ?_))
    refine bE D underlying50 f ⟨X,?_,by rw [q.out],u.out⟩;have d:=H.out;exact { d with ta:=by have:=d.ta;show X.aT.size<=_;omega,tb:=by have:=d.tb;show X.bT.size<=_;omega }
   have aO:=yF N (by omega:(T.size:Int)≠0);have a4:=yj N (by omega:(0:Int)<(T.size:Int));obtain ⟨k,hk⟩:∃ k:Nat,N % (T.size:Int)=(k:Int):=⟨(N % (T.size:Int)).toNat,by omega⟩
   have am:=ah (pbi N (T.size:Int) (k:Int) aj.out.2 (by omega) hk);have k0:(0:Int)<=(k:Int):=by omega
   have k1:(k:Int)<(T.size:Int):=by omega
   have a7:(0:Int)<(T.size:Int):=by omega
   have e1:IntKind.i64.wrap ((k:Int)+1)=((k+1:Nat):Int):=by rw [pam (by omega) (by omega)];omega
   have k2:((k+1:Nat):Int)<=(T.size:Int):=by omega
   have k3:k+1<=T.size:=by omega
   clear aO a4 hk ag;go_wp2_with fail;refine (am.out _).mono ?_;rintro e w' ⟨rfl,rfl⟩;obtain ⟨c,hc⟩:∃ c:UInt8,bits .xor .u8 (T[k].toNat:Int) 1=(c.toNat:Int):=⟨T[k] ^^^ 1,pmm T[k] 1⟩
   obtain ⟨gN,aV⟩:=ae (g.heap.size);obtain ⟨S,ay⟩:=ae (g.alloc (.cells #[.int .u8 (c.toNat:Int)] 5));have u4:Uq g S.drew:=by rw [<-ay];exact (uR.alloc _).drew
   have aI:AB 5 S.drew gN [c]:=by show S.drew.heap[gN]? =_;rw [<-ay,<-aV];exact paa (xi _ _) uR.drew
   have a3:=aI.text (z:=⟨#[c]⟩) rfl 1;rw [zw] at a3;have ak:=paa h.out u4;have ap:=paa K.out u4;have U4:=J.out.trans u4;have bj:S.drew.cell? ⟨gE,3,none⟩=some (.string T):=(xa _ gE 3 _ _ _ ak).trans (by rw [j.out,HT.out.1];rfl);have bk:=xp S.drew gE 3 _ _ ak;obtain ⟨A,hA⟩:=ae (T.extract 0 k);obtain ⟨B,hB⟩:=ae (T.extract (k+1) T.size);have bg:A.size=k:=by rw [<-hA];simp;omega
   have bi:B.size<=T.size:=by rw [<-hB];simp
   have k4:k<=T.size:=by omega
   have v4:=aU ay;have ac:=xg S gE 3 _ _ (.string (A ++ ByteArray.mk #[c] ++ B)) (paa h.out v4);obtain ⟨O,P,q,E,G,t,D,u,f,C,v⟩:=pcx (w:=w) (W:=(S.setCell ⟨gE,3,none⟩ (.string (A ++ ByteArray.mk #[c] ++ B))).drew) (gE:=gE) (gR:=gR) ({ X with aT:=A ++ ByteArray.mk #[c] ++ B }:EvdG) (by rw [show (({ X with aT:=A ++ ByteArray.mk #[c] ++ B }:EvdG)).V=U.setIfInBounds 3 (.string (A ++ ByteArray.mk #[c] ++ B)) by rw [j.out];rfl];exact ac) (pai (paa K.out v4) (by have:=M.out;omega)) ((J.out.trans v4).setNew (p:=⟨gE,3,none⟩) o.out.2 _).drew o.out.1;have aZ:B.size=T.size - (k+1):=by rw [<-hB];simp
   have aP:Hid ((A ++ ByteArray.mk #[c] ++ B).size<=L+1):=by show _<=_;rw [xT,xT];show A.size+1+B.size<=_;have:=HT.out.2;omega
   clear ak ap U4 u4 aI v4 ac aZ;have aE:(ByteArray.mk #[c]).size=1:=rfl;have s1:¬ 9223372036854775807<A.size+(ByteArray.mk #[c]).size:=by rw [aE];have:=HT.out.2;omega
   have s2:¬ 9223372036854775807<(A ++ ByteArray.mk #[c]).size+B.size:=by rw [xT,aE];have:=HT.out.2;omega
   go_upto_region 25 with (fail)
   go_region;go_wp2_with (first | (refine bL E underlying50 f ?_) | (refine bS G f v C t ?_))
   refine bE D underlying50 f ⟨({ X with aT:=A ++ ByteArray.mk #[c] ++ B }:EvdG),?_,by rw [q.out],u.out⟩;have d:=H.out;exact { d with ta:=aP.out,tb:=by have:=d.tb;show X.bT.size<=_;omega }
 · have ce:g.cell? ⟨gE,11,none⟩=some (.int .i64 X.high):=(xa _ gE 11 _ _ _ h.out).trans (by rw [j.out];rfl);have fz:=xp g gE 11 _ _ h.out;obtain ⟨y,hy⟩:=az (N % 3);have am:=ah (pbi N 3 y aj.out.2 (by omega) hy.symm);obtain ⟨a,ha⟩:=ae (IntKind.i64.wrap (X.high+y));obtain ⟨b,hb⟩:=ae (IntKind.i64.wrap (a - 1));have HB:Hid (pab b):=by show pab b;rw [<-hb];exact pbq _
   clear hy;have ac:=xg g gE 11 _ _ (.int .i64 b) h.out;obtain ⟨O,P,q,E,G,t,D,u,f,C,v⟩:=pcx (w:=w) (W:=(g.setCell ⟨gE,11,none⟩ (.int .i64 b)).drew) (gE:=gE) (gR:=gR) ({ X with high:=b }:EvdG) (by rw [show (({ X with high:=b }:EvdG)).V=U.setIfInBounds 11 (.int .i64 b) by rw [j.out];rfl];exact ac) (pai K.out (by have:=M.out;omega)) (J.out.setNew (p:=⟨gE,11,none⟩) o.out.2 _).drew o.out.1;clear ac;go_upto_region 27 with (fail)
   go_region_with (go_at_call 21;refine (am.out _).mono ?_;rintro e w' ⟨rfl,rfl⟩)
   all_goals (
    go_wp2_with (first | (refine bL E underlying50 f ?_) | (refine bS G f v C t ?_))
    refine bE D underlying50 f ⟨({ X with high:=b }:EvdG),?_,by rw [q.out],u.out⟩;have d:=H.out;exact { d with l:=⟨d.l.1,HB.out⟩,ta:=by have:=d.ta;show X.aT.size<=_;omega,tb:=by have:=d.tb;show X.bT.size<=_;omega })
 · obtain ⟨x,y,hF,hA,d,hy⟩:=H.out.n;have ce:g.cell? ⟨gE,12,none⟩=some (.string X.F):=(xa _ gE 12 _ _ _ h.out).trans (by rw [j.out];rfl);have aC:=ah (pd4 X.F x g hF d);have HN:=ah (xf hF d);clear hF hA d hy;go_wp2_with fail;refine aC.out.mono ?_;rintro e R ⟨r,Z,rfl,hq⟩;have ab:=paa h.out hq;have ai:=paa K.out hq;have U3:=J.out.trans hq;have bl:R.cell? ⟨gE,13,none⟩=some (.string X.A):=(xa _ gE 13 _ _ _ ab).trans (by rw [j.out];rfl);have bh:=xp R gE 13 _ _ ab;obtain ⟨O,P,q,E,G,t,D,u,f,C,v⟩:=pcx (w:=w) (W:=R.setCell ⟨gE,13,none⟩ (.string r)) (gE:=gE) (gR:=gR) ({ X with A:=r }:EvdG) (by rw [show (({ X with A:=r }:EvdG)).V=U.setIfInBounds 13 (.string r) by rw [j.out];rfl];exact xg _ _ _ _ _ _ ab) (pai ai (by have:=M.out;omega)) (U3.setNew (p:=⟨gE,13,none⟩) o.out.2 _) o.out.1;have a1:Hid (∃ x y,bs X.F=be x/\bs r=be y/\x<1000/\y<=1000000):=⟨x,x * x,HN.out.1,Z.out,HN.out.2,by have:=zC (zv HN.out.2) (zv HN.out.2);omega⟩
   clear ab ai U3 hq aC ce;go_wp2_with (first | (refine bL E underlying50 f ?_) | (refine bS G f v C t ?_))
   refine bE D underlying50 f ⟨({ X with A:=r }:EvdG),?_,by rw [q.out],u.out⟩;have d:=H.out;exact { d with n:=a1.out,ta:=by have:=d.ta;show X.aT.size<=_;omega,tb:=by have:=d.tb;show X.bT.size<=_;omega }
 · have ce:g.cell? ⟨gE,15,none⟩=some (.int .i64 X.ci):=(xa _ gE 15 _ _ _ h.out).trans (by rw [j.out];rfl);have fz:=xp g gE 15 _ _ h.out;obtain ⟨y,hy⟩:=az (N % 3);have am:=ah (pbi N 3 y aj.out.2 (by omega) hy.symm);obtain ⟨a,ha⟩:=ae (IntKind.i64.wrap (X.ci+y));obtain ⟨b,hb⟩:=ae (IntKind.i64.wrap (a - 1));have HB:Hid (pab b):=by show pab b;rw [<-hb];exact pbq _
   clear hy;have ac:=xg g gE 15 _ _ (.int .i64 b) h.out;obtain ⟨O,P,q,E,G,t,D,u,f,C,v⟩:=pcx (w:=w) (W:=(g.setCell ⟨gE,15,none⟩ (.int .i64 b)).drew) (gE:=gE) (gR:=gR) ({ X with ci:=b }:EvdG) (by rw [show (({ X with ci:=b }:EvdG)).V=U.setIfInBounds 15 (.int .i64 b) by rw [j.out];rfl];exact ac) (pai K.out (by have:=M.out;omega)) (J.out.setNew (p:=⟨gE,15,none⟩) o.out.2 _).drew o.out.1;clear ac;go_upto_region 31 with (fail)
   go_region_with (go_at_call 21;refine (am.out _).mono ?_;rintro e w' ⟨rfl,rfl⟩)
   all_goals (
    go_wp2_with (first | (refine bL E underlying50 f ?_) | (refine bS G f v C t ?_))
    refine bE D underlying50 f ⟨({ X with ci:=b }:EvdG),?_,by rw [q.out],u.out⟩;have d:=H.out;exact { d with c:=⟨HB.out,d.c.2⟩,ta:=by have:=d.ta;show X.aT.size<=_;omega,tb:=by have:=d.tb;show X.bT.size<=_;omega })
theorem pmE:Lib.itoa (-9223372036854775808)=[45,57,50,50,51,51,55,50,48,51,54,56,53,52,55,55,53,56,48,56]:=by decide +kernel
theorem pdk (n w) (m:pab n):Calls prog 147 #[.int .i64 n] w (MkS (Lib.itoa n) w):=by
 have v:=m.1;have B:=m.2;by_cases h0:0<=n
 · obtain ⟨u,rfl⟩:=uo h0;go_in;go_wp2_with fail;refine (pbs u w (by omega)).mono ?_;rintro e g ⟨a,h,rfl,d⟩;go_wp2_with fail;refine (pdf u g a h.out (by omega)).mono ?_;rintro e t ⟨y,f,r,rfl,c⟩;go_wp2;go_ret;rw [pbn];exact ⟨y,f.out,r,rfl,d.trans c⟩
 · by_cases o:n=-9223372036854775808
   · subst o;go_in;go_wp2;go_ret;refine ⟨_,?_,?_,rfl,Upd.refl _ _⟩
     · show _=_;rw [pmE];rfl
     · rw [pmE];decide
   · obtain ⟨u,q⟩:∃ u:Nat,n=-(u:Int):=⟨n.natAbs,by omega⟩
     have D:IntKind.i64.wrap (-n)=(u:Int):=by rw [zs _ (by omega)];omega
     have C:(n == -9223372036854775808)=false:=by rw [xm];exact o
     have k:n.natAbs=u:=by omega
     have p:Hid (Lib.itoa n=[45] ++ Lib.decDigits u):=by show _=_;rw [peh (by omega),k]
     have j:u<9223372036854775808:=by omega
     have x:=ah q;clear q k;go_in;go_wp2_with fail;refine (pbs u w j).mono ?_;rintro e g ⟨a,h,rfl,d⟩;go_wp2_with fail;refine (pdf u g a h.out j).mono ?_;rintro e t ⟨y,f,r,rfl,c⟩;have A:=pbY (u:=u) (by omega);have z:¬ 9223372036854775807<1+y.size:=by omega
     go_wp2;go_ret;refine ⟨ByteArray.mk #[45] ++ y,?_,?_,rfl,d.trans c⟩
     · show _=_;rw [p.out,pae,f.out];rfl
     · rw [p.out,xT,xr];show 1+y.size<=1+_;omega
theorem pgN (x) (j:x.ok) (hd:x.draw.size<=1000000000) (w):Calls prog 70 #[.agg (rcV x).toArray] w (MkS (pa1 x) w):=by
 have n:=(pi4 w x _ rfl).upd uR.drew;have P:Uq w (w.alloc (.cells (rcV x).toArray 62)).drew:=(uR.alloc _).drew;obtain ⟨C,Y⟩:=az ((rcV x).toArray);rw [<-Y] at n P ⊢;clear Y;obtain ⟨h1,T,J,G,N,R,_,_⟩:=id j;have l1:=itoa_len _ h1;have l2:=itoa_len _ T;have l3:=itoa_len _ J;have t:prog.underlying 60=some (.array 32 5):=underlying60;have i1:=peQ G;have i2:=peQ N;have i3:=peQ R;have x1:=paO x.out;have x2:=paO x.hash;have x3:=paO x.prev;obtain ⟨k0,k1,k2,k3,_,_,_⟩:=n.s j;have q:=ah (fun (W:World) (r:RcAt W w.heap.size x)=>(⟨r.head.1,r.head.2.1,r.head.2.2.2⟩:W.cell? ⟨w.heap.size,0,none⟩=some (.int .i64 x.kiosk)/\W.cell? ⟨w.heap.size,1,none⟩=some (.int .i64 x.serial)/\W.cell? ⟨w.heap.size,3,none⟩=some (.int .i64 x.seen)));have p:=ah (fun (W:World) (r:RcAt W w.heap.size x)=>(⟨r.head.2.2.1,(r.ranges j).1,(r.ranges j).2.1,(r.ranges j).2.2⟩:W.cell? ⟨w.heap.size,2,none⟩=some (.string x.draw)/\W.rangeAt w.heap.size 4 (byteVals x.out)/\W.rangeAt w.heap.size 36 (byteVals x.hash)/\W.rangeAt w.heap.size 68 (byteVals x.prev)));go_in;go_wp2_with fail;go_region_held3 (fun u=>u.cell? ⟨w.heap.size,0,none⟩=some (.int .i64 x.kiosk)/\u.cell? ⟨w.heap.size,1,none⟩=some (.int .i64 x.serial)/\u.cell? ⟨w.heap.size,3,none⟩=some (.int .i64 x.seen)) (first | with_reducible exact q.out _ n | with_reducible assumption)
  (first
   | (go_at_call 147;((with_reducible refine (pdk x.kiosk _ h1).mono ?_);rintro e w1 ⟨f,ad,al,rfl,hq⟩;have O:=n.upd hq;have u1:=P.trans hq;have X:=q.out _ O;have t1:¬ 9223372036854775807<8+f.size:=(by omega);have t2:¬ 9223372036854775807<8+f.size+1:=(by omega);clear hq))
   | (go_at_call 147;((with_reducible refine (pdk x.serial _ T).mono ?_);rintro e w2 ⟨m,ac,aj,rfl,hq⟩;have S:=O.upd hq;have u2:=u1.trans hq;have X:=q.out _ S;have t3:¬ 9223372036854775807<8+f.size+1+m.size:=(by omega);have t4:¬ 9223372036854775807<8+f.size+1+m.size+1:=(by omega);clear hq))
   | (go_at_call 147;((with_reducible refine (pdk x.seen _ J).mono ?_);rintro e Q ⟨v,ab,ai,rfl,hq⟩;have M:=S.upd hq;have u3:=u2.trans hq;have X:=q.out _ M;have t5:¬ 9223372036854775807<8+f.size+1+m.size+1+v.size:=(by omega);clear hq)))
 go_upto_region 2 with (fail)
 obtain ⟨U,o⟩:=az (ByteArray.mk #[114,101,99,101,105,112,116,32] ++ f ++ ByteArray.mk #[32] ++ m ++ ByteArray.mk #[32] ++ v);have A:bs U=wRc ++ 32 :: (Lib.itoa x.kiosk ++ 32 :: (Lib.itoa x.serial ++ 32 :: Lib.itoa x.seen)):=by
  rw [o,pae,pae,pae,pae,pae,ad.out,ac.out,ab.out];simp [wRc,bs]
 have am:U.size<=100:=by
  rw [o];simp only [xT];show 8+f.size+1+m.size+1+v.size<=_;omega
 rw [<-o];have B:=ah A;have s1:¬ 9223372036854775807<U.size+1:=by omega
 clear o A;have E:=M.upd (Upd.refl [] Q).drew;have aa:=u3.trans (Upd.refl [] Q).drew;refine bH p E fun a=>?_;refine tkS [0,1,2] a ?_;refine tkT 3 a ?_ (y:=(zq (by rfl) _ _ rfl _ _ rfl (byteVals x.out) _ (fun w h=>h.2.1) t rfl i1));refine tkY 7 a ?_;refine tkT 8 a ?_ (y:=(zq (by rfl) _ _ rfl _ _ rfl (byteVals x.hash) _ (fun w h=>h.2.2.1) t rfl i2));refine tkY 12 a ?_;refine tkT 13 a ?_ (y:=(zq (by rfl) _ _ rfl _ _ rfl (byteVals x.prev) _ (fun w h=>h.2.2.2) t rfl i3));refine tkS [17,18] a ?_;refine tk1 4 fun K d=>?_;go_simp;refine (pcB x.out G _).mono ?_;rintro e w4 ⟨c,z,af,rfl,hq⟩;have Z:=E.upd hq;have u4:=aa.trans hq;have t1:¬ 9223372036854775807<U.size+1+c.size:=(by omega);have t2:¬ 9223372036854775807<U.size+1+c.size+1:=(by omega);clear hq;go_wp2_with fail;refine tkK d (p.out _ Z) fun a=>?_;clear d K;refine tkS [5,6] a ?_;refine tk1 9 fun K d=>?_;go_simp;refine (pcB x.hash N _).mono ?_;rintro e w5 ⟨g,F,ak,rfl,hq⟩;have H:=Z.upd hq;have u5:=u4.trans hq;have t3:¬ 9223372036854775807<U.size+1+c.size+1+g.size:=(by omega);have t4:¬ 9223372036854775807<U.size+1+c.size+1+g.size+1:=(by omega);clear hq;go_wp2_with fail;refine tkK d (p.out _ H) fun a=>?_;clear d K;refine tkS [10,11] a ?_;refine tk1 14 fun K d=>?_;go_simp;refine (pcB x.prev R _).mono ?_;rintro e w6 ⟨k,D,ag,rfl,hq⟩;have r6:=H.upd hq;have u6:=u5.trans hq;have t5:¬ 9223372036854775807<U.size+1+c.size+1+g.size+1+k.size:=(by omega);have t6:¬ 9223372036854775807<U.size+1+c.size+1+g.size+1+k.size+1:=(by omega);have t7:¬ 9223372036854775807<U.size+1+c.size+1+g.size+1+k.size+1+x.draw.size:=(by omega);clear hq;go_wp2_with fail;refine tkK d (p.out _ r6) fun a=>?_;clear d K;refine tkS [15,16,19,20] a ?_;refine tkD ?_;go_wp2;go_ret;refine ⟨U ++ ByteArray.mk #[32] ++ c ++ ByteArray.mk #[32] ++ g ++ ByteArray.mk #[32] ++ k ++ ByteArray.mk #[32] ++ x.draw,?_,?_,rfl,u6⟩
 · show _=_;simp only [pae,B.out,z.out,F.out,D.out,pa1];simp [bs]
 · have e:bs (U ++ ByteArray.mk #[32] ++ c ++ ByteArray.mk #[32] ++ g ++ ByteArray.mk #[32] ++ k ++ ByteArray.mk #[32] ++ x.draw)=pa1 x:=by
    simp only [pae,B.out,z.out,F.out,D.out,pa1];simp [bs]
   rw [<-e,pac];exact xj _
theorem pdl (x) (d:x.ok) (G:x.draw.size<=1000000000) (w):Calls prog 23 #[.agg (rcV x).toArray] w (MkS (pcg x) w):=by
 have g:=(pi4 w x _ rfl).upd uR.drew;have n:Uq w (w.alloc (.cells (rcV x).toArray 62)).drew:=(uR.alloc _).drew;obtain ⟨C,t⟩:=az ((rcV x).toArray);rw [<-t] at g n ⊢;clear t;obtain ⟨_,_,_,_,_,_,q,o⟩:=id d;have B:=pdy d;have u:=underlying62;have j:=ah (fun (W:World) (r:RcAt W w.heap.size x)=>r.two d);obtain ⟨U,H,O⟩:=g.two d;have N:=pcP d;have S:=piN (a:=x.r) (b:=x.s) q o;go_in;go_wp2_with fail;refine bH j g fun c=>?_;refine tkS [0,1] c ?_;refine tkT 4 c ?_ (y:=(zq (by rfl) _ _ rfl _ _ rfl (rcV x) _ (fun w v=>v.2.2) u rfl B));refine tk1 2 fun K f=>?_;go_simp;refine (poE x.r x.s _ q o).mono ?_;rintro e M ⟨h,A,R,rfl,hq⟩;have m:=g.upd hq;have F:=n.trans hq;have Q:¬ 9223372036854775807<h.size+1:=(by omega);clear hq;go_wp2_with fail;refine tkK f (j.out _ m) fun c=>?_;clear f K;refine tkY 3 c ?_;refine tk1 5 fun K f=>?_;go_simp;refine (pgN x d G _).mono ?_;rintro e P ⟨k,z,J,rfl,hq⟩;have E:=m.upd hq;have D:=F.trans hq;have T:¬ 9223372036854775807<h.size+1+k.size:=(by omega);clear hq;go_wp2_with fail;refine tkK f (j.out _ E) fun c=>?_;clear f K;refine tkS [6,7] c ?_;refine tkD ?_;go_wp2;go_ret;have p:bs (h ++ ByteArray.mk #[32] ++ k)=pcg x:=by
  rw [pae,pae,A.out,z.out,pcg];simp [bs]
 exact ⟨_,p,by rw [<-p,pac];exact xj _,rfl,D⟩
end Go.Proofs.YtkhjolbbpdaplaaGreatDoor
