/- nat at numbers of at most one digit, zero too: compare, Cmp, multiply, Mul, Quo by the modulus and what follows. -/
import Derived.Test.YtkhjolbbpdaplaaGreatDoorHBG
import Derived.RangeFuncCalls
import Derived.LoopIn
import Derived.Shelf.RegionOpen
namespace Go.Proofs.YtkhjolbbpdaplaaGreatDoor
set_option maxHeartbeats 4000000
open Go.RowKit Go.Proofs.Tryz
set_option maxRecDepth 100000
abbrev yJ:=@List.size_toArray
abbrev yS:=@World.putObj_heap_other
abbrev uz:=@Nat.mul_lt_mul''
def cmpZ (a b:Nat):Int:=if a<b then -1 else if a=b then 0 else 1
theorem pjU {a b}:cmpZ a b≠0 ↔ a≠b:=by
 unfold cmpZ;split
 · exact ⟨fun _=>by omega,fun _=>by omega⟩
 · split
   · exact ⟨fun h=>absurd rfl h,fun h=>absurd (by assumption) h⟩
   · exact ⟨fun _=>by assumption,fun _=>by omega⟩
theorem pjV (u v l r w) (c:Wd w u l) (a:Wd w v r) (j:r.length<l.length):Calls prog 213 #[u,v] w (pgo 1 w):=by
 obtain ⟨e,d,rfl,_,_⟩:=c.form;obtain ⟨o,n,rfl,_,_⟩:=a.form;have m:((l.length:Int) != (r.length:Int))=true:=by rw [uh];omega
 have k:((l.length:Int) == (r.length:Int))=false:=by rw [xm];omega
 have f:(l.length == r.length)=false:=by rw [xm];omega
 have g:¬ (l.length:Int)<(r.length:Int):=by omega
 have h:¬ l.length<r.length:=by omega
 clear c a;go_in;go_wp2;go_ret;exact ⟨rfl,Upd.refl _ _⟩
theorem plk (u v w) (c:Wd w u []) (a:Wd w v []):Calls prog 213 #[u,v] w (pgo 0 w):=by
 obtain ⟨e,d,rfl⟩:=c.none';obtain ⟨g,f,rfl⟩:=a.none';clear c a;go_in;go_wp2_with fail;refine yt 1 ?_;rw [xK];go_wp2;go_ret;exact ⟨rfl,Upd.refl _ _⟩
theorem piu (u v d e w) (c:Wd w u [d]) (a:Wd w v [e]) (q:e<d):Calls prog 213 #[u,v] w (pgo 1 w):=by
 obtain ⟨g,j,rfl,_,_,_,k⟩:=c.one;obtain ⟨h,r,rfl,_,_,_,m⟩:=a.one;have t:((d:Int) != (e:Int))=true:=by rw [uh];omega
 have p:((d:Int) == (e:Int))=false:=by rw [xm];omega
 have o:¬ (d:Int)<(e:Int):=by omega
 have n:(d == e)=false:=by rw [xm];omega
 have f:¬ d<e:=by omega
 clear c a;go_in;go_wp2_with fail;refine yt 2 ?_;rw [xK];go_wp2_with fail;go_quiet (fail);go_wp2_with fail;go_quiet (fail);go_wp2;go_ret;exact ⟨rfl,(uR.drewN _).drewN _⟩
theorem piv (u v a b) (f:a<4294967296) (e:b<4294967296) (w) (d:Wd w u (dw a)) (c:Wd w v (dw b)):Calls prog 213 #[u,v] w (pgo (cmpZ a b) w):=by
 by_cases h0:a=0
 · subst h0;rw [pbf] at d;by_cases h1:b=0
   · subst h1;rw [pbf] at c;exact plk u v w d c
   · rw [pcV (by omega) e] at c;rw [show cmpZ 0 b=-1 by unfold cmpZ;rw [xH (by omega)]];exact peg u v _ _ w d c (by show 0<1;omega)
 · rw [pcV (by omega) f] at d;by_cases h1:b=0
   · subst h1;rw [pbf] at c;rw [show cmpZ a 0=1 by unfold cmpZ;rw [yy (by omega),yy (by omega)]];exact pjV u v _ _ w d c (by show 0<1;omega)
   · rw [pcV (by omega) e] at c;rcases Nat.lt_trichotomy a b with h | h | h
     · rw [show cmpZ a b=-1 by unfold cmpZ;rw [xH h]];exact pfg u v a b w d c h
     · subst h;rw [show cmpZ a a=0 by unfold cmpZ;rw [yy (by omega),xH rfl]];exact pff u v a w d c
     · rw [show cmpZ a b=1 by unfold cmpZ;rw [yy (by omega),yy (by omega)]];exact piu u v a b w d c h
theorem pjW (s t d c) (g:bs s=be d) (j:bs t=be c) (G:d<4294967296) (F:c<4294967296) (w):Calls prog 166 #[.string s,.string t] w (pgo (cmpZ d c) w):=by
 have x:s.size<=1000000000:=by rw [par g];exact xB (paJ 4 _ (xA (by assumption) (by decide))) (by omega)
 have A:t.size<=1000000000:=by rw [par j];exact xB (paJ 4 _ (xA (by assumption) (by decide))) (by omega)
 have a:=pbr s w x;have k:=ah (fun w'=>pbr t w' A);rw [g,paK] at a;simp only [j,paK] at k;have a:=ah a;clear g j x A;go_in;go_wp2_with fail;refine a.out.mono ?_;rintro e C ⟨v,y,rfl,o⟩;have n:=ah o;clear o a;go_wp2_with fail;refine (k.out C).mono ?_;rintro e D ⟨u,r,rfl,f⟩;have h:=ah (piv v u d c G F D (y.out.upd f) r.out);have p:=ah (n.out.trans f);obtain ⟨z,m⟩:=az (cmpZ d c);rw [<-m] at h;have E:=ah m;clear f k n y r m;go_wp2_with fail;refine h.out.mono ?_;rintro e H ⟨rfl,q⟩;have B:=ah (p.out.trans q);clear q h p;go_wp2;go_ret;exact ⟨by rw [<-E.out];rfl,B.out⟩
theorem ps8 (u v w) (j:Wd w u []) (h:Wd w v []):Calls prog 261 #[u,v] w (fun e w'=>∃ k,Hid (Wd w' k [])/\e=.returned k/\Uq w w'):=by
 obtain ⟨r,q,rfl⟩:=j.none';obtain ⟨y,x,rfl⟩:=h.none';have m:(Instr.makeSlice 119 (.int .i64 0) (.int .i64 0)).run prog w=.ok (.slice (some ⟨w.heap.size,0,none⟩) 0 0) (w.alloc (.cells (pcT (List.replicate 0 0)).toArray 163)):=pbT w 0 (by omega);obtain ⟨f,a⟩:=az (w.alloc (.cells (pcT (List.replicate 0 0)).toArray 163));have g:WB f w.heap.size []:=by rw [a];exact xi _ _
 have d:Uq w f:=by rw [a];exact uR.alloc _
 rw [<-a] at m;have c:=pcU _ _ _ (g.slice (by simp [maxLen])) pkI;rw [show valW []=0 from rfl,pbf] at c;have o:=ah c;have n:=ah d;clear j h a d c g;go_in;go_wp2_with fail;refine yt 1 ?_;rw [xK];go_wp2_with fail;refine o.out.mono ?_;rintro e t ⟨v,p,rfl,rfl⟩;go_wp2;go_ret;exact ⟨v,p,rfl,n.out⟩
theorem mul_one (u v d) (h0:0<d) (o:d<65536) (w) (F:Wd w u [d]) (B:Wd w v [d]):Calls prog 261 #[u,v] w (fun e w'=>∃ y,Hid (Wd w' y [d * d])/\e=.returned y/\Uq w w'):=by
 obtain ⟨g,P,rfl,_,_,C,z⟩:=F.one;obtain ⟨h,aa,rfl,_,_,D,A⟩:=B.one;have t:(Instr.makeSlice 119 (.int .i64 2) (.int .i64 2)).run prog w=.ok (.slice (some ⟨w.heap.size,0,none⟩) 2 2) (w.alloc (.cells (pcT (List.replicate 2 0)).toArray 163)):=pbT w 2 (by omega);obtain ⟨a,f⟩:=az (w.alloc (.cells (pcT (List.replicate 2 0)).toArray 163));have c:WB a w.heap.size [0,0]:=by rw [f];exact xi _ _
 have k:Uq w a:=by rw [f];exact uR.alloc _
 rw [<-f] at t;obtain ⟨G,n⟩:=az (w.heap.size);rw [<-n] at t c;have J:d * d<4294967296:=by have:=uz o o;omega
 have H:0<d * d:=Nat.mul_pos h0 h0;have Z:a.cell? ⟨g,0,none⟩=some (.int .u32 (d:Int)):=(k.cell C (by simp)).trans z;have d2:a.cell? ⟨h,0,none⟩=some (.int .u32 (d:Int)):=(k.cell D (by simp)).trans A;have k0:a.cell? ⟨G,0,none⟩=some (.int .u32 0):=c.cell (j:=0) rfl;have O:a.cell? ⟨G,1,none⟩=some (.int .u32 0):=c.cell (j:=1) rfl;have S:=c.frozen 0;have f1:=c.frozen 1;obtain ⟨m,r⟩:=az (d * d);have E:WB ((a.setCell ⟨G,0,none⟩ (.int .u32 (m:Int))).setCell ⟨G,1,none⟩ (.int .u32 0)) G [m,0]:=(c.set 0 m).set 1 0;have x:Uq w ((a.setCell ⟨G,0,none⟩ (.int .u32 (m:Int))).setCell ⟨G,1,none⟩ (.int .u32 0)):=(k.setNew (p:=⟨G,0,none⟩) (by rw [n];exact xj _) _).setNew (p:=⟨G,1,none⟩) (by rw [n];exact xj _) _;have q:=pcU _ _ _ (E.slice (by simp [maxLen])) (fun d o=>by simp at o;omega);rw [show valW [m,0]=m by simp [valW],pcV (by omega) (by omega)] at q;have M:=ah q;have K:=ah x;have T:g≠G:=by omega
 have U:h≠G:=by omega
 have W:m<4294967296:=by omega
 have X:(d:Int) * (d:Int)=(m:Int):=by rw [r];simp
 have a1:IntKind.u64.wrap (m:Int)=(m:Int):=by show (m:Int) % 18446744073709551616=_;omega
 have a2:IntKind.u32.wrap (m:Int)=(m:Int):=by show (m:Int) % 4294967296=_;omega
 have R:(m:Int) / 4294967296=0:=by omega
 have Y:m / 4294967296=0:=by omega
 rw [<-r];clear F B z A f k q E x c n C D r J H;go_in;go_wp2_with fail;refine yt 2 ?_;rw [xK];go_wp2_with fail;refine yt 2 ?_;rw [xK];go_wp2_with fail;rw [xK];go_wp2_with fail;rw [xK];go_wp2_with fail;refine M.out.mono ?_;rintro e Q ⟨v,N,rfl,rfl⟩;go_wp2;go_ret;exact ⟨v,N,rfl,K.out⟩
theorem pnC (u v d) (f:d<65536) (w) (c:Wd w u (dw d)) (a:Wd w v (dw d)):Calls prog 261 #[u,v] w (fun e w'=>∃ g,Hid (Wd w' g (dw (d * d)))/\e=.returned g/\Uq w w'):=by
 by_cases h0:d=0
 · subst h0;rw [pbf] at c a;rw [show 0 * 0=0 from rfl,pbf];exact ps8 u v w c a
 · have h:d * d<4294967296:=by have:=uz f f;omega
   rw [pcV (by omega) (by omega)] at c a;rw [pcV (Nat.mul_pos (by omega) (by omega)) h];exact mul_one u v d (by omega) f w c a
theorem pjX (s t d) (g:bs s=be d) (h:bs t=be d) (k:d<65536) (w):Calls prog 215 #[.string s,.string t] w (pde (d * d) w):=by
 have D:s.size<=1000000000:=by rw [par g];exact xB (paJ 2 _ (xA (by assumption) (by decide))) (by omega)
 have F:t.size<=1000000000:=by rw [par h];exact xB (paJ 2 _ (xA (by assumption) (by decide))) (by omega)
 have c:=pbr s w D;have j:=ah (fun w'=>pbr t w' F);rw [g,paK] at c;simp only [h,paK] at j;have c:=ah c;clear g h D F;go_in;go_wp2_with fail;refine c.out.mono ?_;rintro e H ⟨v,E,rfl,o⟩;have m:=ah o;clear o c;go_wp2_with fail;refine (j.out H).mono ?_;rintro e K ⟨u,C,rfl,f⟩;have B:=ah (pnC v u d k K (E.out.upd f) C.out);have p:=ah (m.out.trans f);clear f j m E C;go_wp2_with fail;refine B.out.mono ?_;rintro e M ⟨z,A,rfl,x⟩;have y:d * d<4294967296:=by have:=uz k k;omega
 have a:=pbb z (dw (d * d)) M A.out (psx _) (by by_cases h0:d * d=0;(· rw [h0,pbf];simp);(· rw [pcV (by omega) y];simp));rw [pkH] at a;have a:=ah a;have q:=ah (p.out.trans x);clear x B p A y;go_wp2_with fail;refine a.out.mono ?_;rintro e N ⟨r,J,rfl,n⟩;have G:=ah (q.out.trans n);clear n a q;go_wp2;go_ret;exact ⟨r,J,rfl,G.out⟩
theorem pjY {d} (a:d<4294967296):(dw d).length<=1:=by
 by_cases h:d=0
 · rw [h,pbf];exact xu _
 · rw [pcV (by omega) a];exact xj _
theorem pnD (s d) (n:bs s=be d) (X:d<4294967296) (w) :
 Calls prog 260 #[.string s,.string ⟨#[138,0,176,218,162,135,68,214,164,195,198,36,84,110,75,89]⟩] w (fun e w'=>∃ q r,Hid (bs r=be d)/\e=.returned (.tuple #[.string q,.string r,.bool true])/\Uq w w'):=by
 have J:=ah (pbr modB w (by decide));have K:s.size<=1000000000:=by rw [par n];exact xB (paJ 4 _ (xA (by assumption) (by decide))) (by omega)
 have o:=ah (fun w'=>pbr s w' K);simp only [n,paK] at o;have E:=ah (pjY X);have y:Hid (∀ (u v:Value) (w:World),Wd w u (dw d)->Wd w v (dw (natB (bs modB)))->Calls prog 294 #[u,v] w (fun e w'=>e=.returned (.tuple #[.slice none 0 0,u])/\Uq w w')):=by
  intro u v w c N;have R:=ah (peg u v _ _ w c N (by have:=pfh pcE;have:=E.out;omega));clear c N;go_in;go_wp2_with fail;refine R.out.mono ?_;rintro e H ⟨rfl,c⟩;have U:=ah c;clear c;go_wp2;go_ret2;exact ⟨rfl,U.out⟩
 clear n K;go_in;go_wp2_with fail;refine J.out.mono ?_;rintro e H ⟨v,g,rfl,A⟩;obtain ⟨Z,Y,rfl,_,_⟩:=g.out.form;have z:((((dw (natB (bs modB))).length:Nat):Int) == 0)=false:=by rw [xm];have:=pfh pcE;omega
 obtain ⟨L,f⟩:=az ((dw (natB (bs modB))).length);rw [<-f] at z g ⊢;have O:(L == 0)=false:=by rw [xm,f];have:=pfh pcE;omega
 have P:¬ L=0:=by rw [f];have:=pfh pcE;omega
 have x:=ah A;clear A J f;go_wp2_with fail;refine (o.out H).mono ?_;rintro e T ⟨u,k,rfl,h⟩;have M:=ah (y.out u _ T k.out (g.out.upd h));have C:=ah (x.out.trans h);clear h o x y g z O P;go_wp2_with fail;refine M.out.mono ?_;rintro e p ⟨rfl,m⟩;have D:=ah (pbb (.slice none 0 0) [] p (Wd.nil p) pkI (by simp));have G:=ah (fun w' (q:Uq p w')=>pbb u (dw d) w' ((k.out.upd m).upd q) (psx _) (by have:=E.out;omega));have F:=ah (C.out.trans m);clear m M C k;go_wp2_with fail;refine D.out.mono ?_;rintro e W ⟨q,_,rfl,j⟩;have a:=G.out W j;rw [pkH] at a;have a:=ah a;have B:=ah (F.out.trans j);clear j D G F;go_wp2_with fail;refine a.out.mono ?_;rintro e w5 ⟨r,S,rfl,t⟩;have Q:=ah (B.out.trans t);clear t a B;go_wp2_with fail;go_ret3;exact ⟨q,r,S,rfl,Q.out⟩
theorem pgI (s d) (f:bs s=be d) (j:d<4294967296) (w):Calls prog 214 #[.string s] w (pde d w):=by
 have a:=ah (pnD s d f j w);clear f;go_in;go_wp2_with fail;refine a.out.mono ?_;rintro e k ⟨q,r,g,rfl,c⟩;have h:=ah c;clear c a;go_wp2;go_ret;exact ⟨r,g,rfl,h.out⟩
theorem pjZ (s d) (m:bs s=be d) (c:d<65536) (w):Calls prog 167 #[.string s] w (pde (d * d) w):=by
 have h:=ah (pgI s d m (by omega) w);have p:Hid (d * d<4294967296):=by have:=uz c c;show _<_;omega
 clear m;go_in;go_wp2_with fail;refine h.out.mono ?_;rintro e t ⟨r,k,rfl,a⟩;have n:=ah (pjX r r d k.out k.out c t);have g:=ah a;clear a h;go_wp2_with fail;refine n.out.mono ?_;rintro e u ⟨z,v,rfl,a⟩;have j:=ah (pgI z (d * d) v.out p.out u);have f:=ah (g.out.trans a);clear a n g;go_wp2_with fail;refine j.out.mono ?_;rintro e x ⟨y,q,rfl,a⟩;have o:=ah (f.out.trans a);clear a j f;go_wp2;go_ret;exact ⟨y,q,rfl,o.out⟩
theorem puC (a b x y z):(prog.info? 44).map (·.size)=some (dspG a b x y z).size:=by show _=some 5;kernel_rfl
theorem puD (a b x y z):(dspG a b x y z).all (·.oneCell')=true:=by simp [dspG,Value.oneCell']
section
variable {M : Array Value} {aw ar as' bw br bs' low high id pub : Int} {aT bT F A B : ByteArray}
theorem pgZ (h:MtIs M aw aT ar as' bw bT br bs' low high F A B id pub) (x y) (h1:pab low) (hF:bs F=be x) (hA:bs A=be y) (N:x<65536) (hy:y<4294967296) (w) :
 Calls prog 95 #[.agg M] w (pdH (fun b=>b=true ↔ 0<=low/\low<1048576/\high=low+1/\x * x≠y) w):=by
 suffices R:∀ P:Bool->Prop,Hid (∀ b,(b=true ↔ 0<=low/\low<1048576/\high=low+1/\x * x≠y)->P b)->Calls prog 95 #[.agg M] w (pdH P w) from R _ (fun _ h=>h)
 intro P J;obtain ⟨g,hg⟩:=ae (w.heap.size);obtain ⟨p,S⟩:=ae (w.alloc (.cells M 105));have Z:=aW hg S;have aa:=ah (aU S);have m:Hid ((Instr.loadAt 44 (.pointer (some ⟨g,16,none⟩))).run prog p=.ok (.agg (dspG low high F A B)) p):=by
  have q:=Z;refine xL p g 16 44 [.int .i64 low,.int .i64 high,.string F,.string A,.string B] _ (fun j v a=>?_) underlying44 rfl (by kernel_rfl)
  match j,a with
  | 0,a=>simp at a;subst a;exact (xa _ g 16 _ _ _ q).trans h.d0
  | 1,a=>simp at a;subst a;exact (xa _ g 17 _ _ _ q).trans h.d1
  | 2,a=>simp at a;subst a;exact (xa _ g 18 _ _ _ q).trans h.d2
  | 3,a=>simp at a;subst a;exact (xa _ g 19 _ _ _ q).trans h.d3
  | 4,a=>simp at a;subst a;exact (xa _ g 20 _ _ _ q).trans h.d4
 obtain ⟨n,o,d,f,X⟩:=paz p 44 zZ5 (dspG low high F A B);obtain ⟨c,ab⟩:=ae (p.heap.size);rw [ab] at o d f;have H:=ah (aa.out.trans X);have c0:n.cell? ⟨c,0,none⟩=some (.int .i64 low):=xa _ c 0 _ _ _ f.out;have c1:n.cell? ⟨c,1,none⟩=some (.int .i64 high):=xa _ c 1 _ _ _ f.out;have Q:Hid (∀ W,Uq n W->W.cell? ⟨c,2,none⟩=some (.string F)/\W.cell? ⟨c,3,none⟩=some (.string A)):=fun W u=>⟨xa _ c 2 _ _ _ (paa f.out u),xa _ c 3 _ _ _ (paa f.out u)⟩
 have R:=ah (fun W=>pjZ F x hF N W);have HC:=ah (fun (z:ByteArray) (hz:bs z=be (x * x)) W=>pjW z A (x * x) y hz hA (by have:=uz N N;omega) hy W);obtain ⟨O,k⟩:=az (dspG low high F A B);have E:Fi 44 O:=by rw [k];exact puC _ _ _ _ _
 have C:Fo O:=by rw [k];exact puD _ _ _ _ _
 have D:Hid ((zZ5:Array Value).size=O.size):=by rw [k];rfl
 rw [<-k] at m d;have H1:=ah h1;clear h Z hF hA k X f h1;by_cases g1:low<0
 · skip
   go_in;go_wp2_with (first | (refine bA m ?_) | (refine bS o E D C d ?_))
   go_ret;exact ⟨false,J.out _ ⟨(fun h=>by cases h),fun h=>absurd h.1 (by omega)⟩,rfl,H.out⟩
 · by_cases g2:1048576<=low
   · skip
     go_in;go_wp2_with (first | (refine bA m ?_) | (refine bS o E D C d ?_))
     go_ret;exact ⟨false,J.out _ ⟨(fun h=>by cases h),fun h=>absurd h.2.1 (by omega)⟩,rfl,H.out⟩
   · have ac:IntKind.i64.wrap (low+1)=low+1:=pam (by omega) (by omega);by_cases G:high=low+1
     · have g4:(high != low+1)=false:=by rw [G];simp
       subst G;go_in;go_upto_region 4 with (first | (refine bA m ?_) | (refine bS o E D C d ?_))
       have U:Uq n n.drew:=uR.drew;refine bH Q U fun t=>?_;refine tkS [0,1,3,4] t ?_;refine tk1 2 fun K r=>?_;go_simp;refine (R.out _).mono ?_;rintro e af ⟨z,HZ,rfl,hq⟩;have T:=U.trans hq;clear hq;go_wp2_with fail;refine tkK r (Q.out _ T) fun t=>?_;clear r K;refine tk1 5 fun K r=>?_;go_simp;refine (HC.out z HZ.out _).mono ?_;rintro e ad ⟨rfl,hq⟩;have Y:=T.trans hq;clear hq;go_wp2_with fail;refine tkK r (Q.out _ Y) fun t=>?_;clear r K;refine tkS [6,7] t ?_;refine tkD ?_;go_wp2;go_ret;exact ⟨_,J.out _ ⟨(fun h=>⟨by omega,by omega,by trivial,pjU.1 (uh.1 h)⟩),fun h=>uh.2 (pjU.2 h.2.2.2)⟩,rfl,H.out.trans Y⟩
     · have g4:(high != low+1)=true:=by rw [uh];exact G
       go_in;go_wp2_with (first | (refine bA m ?_) | (refine bS o E D C d ?_))
       go_ret;exact ⟨false,J.out _ ⟨(fun h=>by cases h),fun h=>absurd h.2.2.1 G⟩,rfl,H.out⟩
end
attribute [local go_sem] Oper.semAt_some
set_option maxRecDepth 100000
def pwQ (x k:Nat):Nat:=x ^ k % Qn
theorem prz (x k):pwQ x (k+1)=pwQ x k * x % Qn:=by
 unfold pwQ;rw [x8,Nat.mod_mul_mod]
theorem pr5 (x k):pwQ x k<1152921504606845789:=yP _ (by unfold Qn;decide)
theorem pnE (t) (l j o N x:Nat) (S:N<=1000000) (H:x<=9223372036854775807) (J:Nat->World->Prop)
 (f:∀ k W,J k W->W.cell? ⟨j,0,none⟩=some (.int .i64 (N:Int))/\W.cell? ⟨o,0,none⟩=some (.int .i64 (x:Int)))
 (n:∀ k q,J k q->k<N->YieldAt Fence.wide (t - 1) prog l #[.int .i64 (k:Int),.int .i64 (pwQ x k:Int)] q fun e a=>e=.returned (.bool true)/\J (k+1) a)
 (W) (h0:J 0 W) :
 CallsIn Fence.wide t prog 312 #[.func (.yield l) #[] #[],.pointer (some ⟨j,0,none⟩),.pointer (some ⟨o,0,none⟩)] W (fun e a=>(∃ v,e=.returned v)/\J N a):=by
 refine callsIn_of_wp func312 rfl trivial ?_ rfl;simp only [ntmps312,yJ,xF,zG,Nat.reduceAdd,Nat.reduceSub,Array.replicate_succ,Array.replicate_zero,List.push_toArray,List.append_toArray,zk,yA];have E:=ah f;have P:=ah n;have C:=ah h0;obtain ⟨u,w⟩:=f 0 W h0;clear f n h0 w
 gi_wp2
 gi_loopw [4,5,7] (fun p _ i wr=>∃ k:Nat,i=.int .i64 (k:Int)/\k<=N/\p=.int .i64 (pwQ x k:Int)/\Hid (J k wr)) (fun _ _ i _=>N - (intOf i).toNat)
 case atStart=>exact ⟨0,rfl,xu _,rfl,C.out⟩
 case round =>
  obtain ⟨k,rfl,U,rfl,y⟩:=hrel;by_cases A:k<N
  · obtain ⟨T,Y,Z,X,O,g⟩:=P.out k wr y.out A;have z:=ah g;obtain ⟨p,c⟩:=az (pwQ x k);have F:p<=9223372036854775807:=by rw [c];have:=pr5 x k;omega
    have D:Hid (pwQ x (k+1)=p * x % Qn):=by rw [c];exact prz x k
    rw [<-c] at O ⊢;have Q:(k:Int)<(N:Int):=by omega
    clear g c
    gi_wp2
    refine ⟨(fun h=>by cases h),z.out.mono ?_⟩;rintro e a ⟨rfl,d⟩;obtain ⟨u,w⟩:=E.out _ a d;have B:=ah d;have M:Hid (∀ m,CallsIn Fence.wide m prog 47 #[p,x,.int .i64 1152921504606845789] a _):=fun m=>callsIn_wide.2 (psJ p x a F H);clear u d
    gi_wp2
    refine ⟨trivial,(fun h=>by cases h),(M.out _).mono ?_⟩;rintro e w' ⟨r,K,_,rfl,rfl⟩
    gi_wp2
    have G:=D.out;have R:=K.out;exact ⟨⟨k+1,by go_num,by omega,(by rw [G,<-R]),B.out⟩,(by first | (simp [intOf];done) | (simp [intOf];omega))⟩
  · obtain rfl:k=N:=by omega
    have Q:¬ (k:Int)<(k:Int):=by omega
    gi_wp2
    go_end0;exact ⟨⟨_,rfl⟩,y.out⟩
def ps9 (l D:Nat) (I:World->Prop) (W:World):Exit->Act->World->Prop
 | .normal,_,W'=>I W'/\W'.heap[l]? =W.heap[l]? /\ W'.heap[D]? =W.heap[D]?
 | _,_,_=>False
theorem pgJ {g:Operand} {G H:Tmp} {assign body:Code} {Q:Exit->Act->World->Prop} {a:Act} {w:World} (u A N x:Nat)
 (hg:a.eval g=.func (.func 312) #[] #[.pointer (some ⟨u,0,none⟩),.pointer (some ⟨A,0,none⟩)]) (hN:N<=1000000) (hx:x<=9223372036854775807)
 (I:Nat->World->Prop) (hI:∀ k W,I k W->W.cell? ⟨u,0,none⟩=some (.int .i64 (N:Int))/\W.cell? ⟨A,0,none⟩=some (.int .i64 (x:Int)))
 (D:∀ k W o,I k W->I k (W.putObj (w.heap.size+1) o))
 (h0:∀ o,I 0 ((w.alloc (.deferred (some []))).alloc o)) (M:Value->Value->Act)
 (O:∀ (x y:Value) (W:World) (K:Act->World->Prop),K (M x y) W->assign.wpIn (Fence.wide.inRound (w.heap.size+1)) (0 - 1 - 1) prog (Exit.then K (fun _ _ _=>False)) { tmps:=(#[G,H].zip #[x,y]).foldl (fun t (p,v)=>t.setIfInBounds p v) a.tmps,defers:=[] } W)
 (Y:∀ k W,I k W->k<N->body.wpIn (Fence.wide.inRound (w.heap.size+1)) (0 - 1 - 1) prog (ps9 (w.heap.size+1) w.heap.size (I (k+1)) W) (M (.int .i64 (k:Int)) (.int .i64 (pwQ x k:Int))) W)
 (R:∀ W,I N W->W.heap[w.heap.size]? =some (.deferred (some []))->Q .normal { a with defers:={ target:=.collected w.heap.size,args:=#[] } :: a.defers } W) :
 (Code.rangeFunc g #[G,H] assign body).wp prog Q a w:=by
 refine (wpIn_wide (n:=0)).1 (wpIn_rangeFunc ?_);intro fn ab;obtain ⟨c,f⟩:∃ c:LoopState->Option Code->Loop,c=fun st pe=>{ state:=st,pending:=pe,fn,tmps:=a.tmps,params:=#[G,H],assign,body,defers:=w.heap.size }:=⟨_,rfl⟩
 obtain ⟨m,B⟩:=ae ((w.alloc (.deferred (some []))).alloc (.loop (c .ready none)));have T:m.heap[w.heap.size+1]? =some (.loop (c .ready none)):=by
  rw [<-B];have:=World.alloc_heap_new (w.alloc (.deferred (some []))) (.loop (c .ready none));rwa [yI] at this
 have U:m.heap[w.heap.size]? =some (.deferred (some [])):=by
  rw [<-B];exact (xY _ _ _ (by simp)).trans (World.alloc_heap_new w _)
 have aa:I 0 m:=by rw [<-B];exact h0 _
 have fin:∀ (W d:World),W.heap[w.heap.size+1]? =some (.loop (c .ready none))->W.heap[w.heap.size]? =some (.deferred (some [])) ->
  d.heap[w.heap.size+1]? =(W.putObj (w.heap.size+1) (.loop { c .ready none with state:=.busy })).heap[w.heap.size+1]? ->
  d.heap[w.heap.size]? =(W.putObj (w.heap.size+1) (.loop { c .ready none with state:=.busy })).heap[w.heap.size]? ->
  (Instr.endRound (w.heap.size+1) none).run prog d=.ok (.bool true) (d.putObj (w.heap.size+1) (.loop (c .ready none))) /\
  (d.putObj (w.heap.size+1) (.loop (c .ready none))).heap[w.heap.size+1]? =some (.loop (c .ready none)) /\
  (d.putObj (w.heap.size+1) (.loop (c .ready none))).heap[w.heap.size]? =some (.deferred (some [])):=fun W d j z r C=>by
  have E:w.heap.size+1<W.heap.size:=(xq.1 j).1;rw [World.putObj_heap_same E] at r;rw [yS (by omega),z] at C;have:=run_endRound (P:=prog) none r;rw [f] at this ⊢;exact ⟨this,World.putObj_heap_same (xq.1 r).1,(yS (by omega)).trans C⟩
 refine ⟨w.heap.size+1,[{ target:=.collected w.heap.size,args:=#[] }],m,{ target:=.fn (.func 312) #[.pointer (some ⟨u,0,none⟩),.pointer (some ⟨A,0,none⟩)],args:=#[.func (.yield (w.heap.size+1)) #[] #[]] },m,312,
  #[.func (.yield (w.heap.size+1)) #[] #[]] ++ #[.pointer (some ⟨u,0,none⟩),.pointer (some ⟨A,0,none⟩)],m,?_,?_,?_,?_,(fun h=>by cases h),?_⟩
 · rw [<-B,f];exact run_enterLoop_outer _ _ _ _ _
 · simp only [resolve,hg];simp [go_sem]
 · intro f' ad;trivial
 · simp [invoke,go_sem]
 · refine (pnE (0 - 1) (w.heap.size+1) u A N x hN hx
    (fun k W=>I k W/\W.heap[w.heap.size+1]? =some (.loop (c .ready none))/\W.heap[w.heap.size]? =some (.deferred (some [])))
    (fun k W h=>hI k W h.1) ?_ m ⟨aa,T,U⟩).mono ?_
   · rintro k W ⟨F,j,z⟩ E;have J:=run_yield (P:=prog) (args:=#[.int .i64 (k:Int),.int .i64 (pwQ x k:Int)]) j (by rw [f];rfl);rw [f] at J;refine ⟨fn,_,assign,body,J,roundIn_of_wpIn ab (O _ _ W _ ⟨_,run_beginRound j (by rw [f]),?_⟩)⟩;refine wpIn_mono (Y k _ (D k W _ F) E) ?_;rintro e a3 d q
     cases e with
     | normal =>
      obtain ⟨S,r,C⟩:=q;obtain ⟨X,Z,ac⟩:=fin W d j z r C;exact ⟨_,_,X,rfl,D _ _ _ S,Z,ac⟩
     | ret=>exact q.elim
     | exit id=>exact q.elim
     | goto t=>exact q.elim
     | panic ch=>exact q.elim
     | outgrown=>exact q.elim
   · rintro e W2 ⟨⟨v,rfl⟩,F,j,z⟩;exact ⟨none,_,by have:=run_endLoop (P:=prog) j (by rw [f];simp);rw [f] at this;exact this,R _ (D _ _ _ F) ((yS (by omega)).trans z)⟩
attribute [local go_sem] Oper.semAt_some
set_option maxRecDepth 100000
def puE (N x:Nat) (w:World) (e:Ending) (w':World):Prop:=∃ bn bx:Nat,Hid (w.heap.size<=bn/\w.heap.size<=bx/\w'.heap[bn]? =some (.cells #[N] 3 (0,0))/\w'.heap[bx]? =some (.cells #[x] 3 (0,0)))/\e=.returned (.func (.func 312) #[] #[.pointer (some ⟨bn,0,none⟩),.pointer (some ⟨bx,0,none⟩)])/\Upd [] [] w w'
theorem pnF (N x:Nat) (w):Calls prog 292 #[N,x] w (puE N x w):=by
 obtain ⟨g,q⟩:=ae (w.heap.size);obtain ⟨k,e⟩:=ae (w.alloc (.cells #[N] 3));have m:=aW q e;have a:=aU e;obtain ⟨d,n⟩:=ae (k.heap.size);obtain ⟨h,f⟩:=ae (k.alloc (.cells #[x] 3));have j:=aW n f;have c:=aU f;have p:Hid (w.heap.size<=g/\w.heap.size<=d/\h.heap[g]? =some (.cells #[N] 3 (0,0))/\h.heap[d]? =some (.cells #[x] 3 (0,0))):=⟨by omega,by have:=a.size;omega,paa m c,j⟩
 have o:=ah (a.trans c);clear m j a c;go_in;go_wp2;go_ret;exact ⟨g,d,p,rfl,o.out⟩
def atL (cs:List Nat) (x:Nat):Nat->Nat
 | 0=>1
 | k+1=>atL cs x k * pP (cs.getD k 0) (pwQ x k) % Pn
theorem pr6 (cs x):∀ k,atL cs x k<2305843009213691579
 | 0=>by show 1<_;decide
 | k+1=>yP _ (by unfold Pn;decide)
structure AtSt (B:Nat) (w1 W:World) (gC gP bn bx:Nat) (C:Value) (N x y:Nat):Prop where
 sz:B<=W.heap.size
 c:W.heap[gC]? =some (.cells #[C] 22 (0,0))
 p:W.heap[gP]? =some (.cells #[y] 3 (0,0))
 n:W.heap[bn]? =some (.cells #[N] 3 (0,0))
 x:W.heap[bx]? =some (.cells #[x] 3 (0,0))
 up:Upd [] [] w1 W
theorem Upd.putNew {w W} (h:Uq w W) {r} (d:w.heap.size<=r) (o):Uq w (W.putObj r o) :=
 ⟨h.os,h.tape,h.output,(by have:=h.size;simpa using this),fun k c a=>(yS (by omega)).trans (h.block k c a),h.new⟩
theorem AtSt.put {B d W a gP e f C N x y r} (h:AtSt B d W a gP e f C N x y) (h1:a<r) (m:gP<r) (k:e<r) (j:f<r) (g:d.heap.size<=r) (o):AtSt B d (W.putObj r o) a gP e f C N x y :=
 ⟨by have:=h.sz;simpa using this,(yS (by omega)).trans h.c,(yS (by omega)).trans h.p,(yS (by omega)).trans h.n,(yS (by omega)).trans h.x,h.up.putNew g o⟩
theorem AtSt.set {B k W a d gP e g C N x y} (h:AtSt B k W d gP e g C N x y) (u:Uq W a) (h1:d<gP) (D:gP<e) (A:gP<g) (w:k.heap.size<=d) (z:Nat) :
 AtSt B k (a.setCell ⟨gP,0,none⟩ (.int .i64 (z:Int))) d gP e g C N x z/\∀ j,j<W.heap.size->j≠gP->(a.setCell ⟨gP,0,none⟩ (.int .i64 (z:Int))).heap[j]? =W.heap[j]?:=by
 have f:∀ j,j<W.heap.size->j≠gP->(a.setCell ⟨gP,0,none⟩ (.int .i64 (z:Int))).heap[j]? =W.heap[j]?:=fun j v o=>(heap_setCell_other a _ _ _ o).trans (u.block j v (by simp));have r:=paf h.c;have q:=paf h.n;have t:=paf h.x;have m:=xg a gP 0 _ _ (.int .i64 (z:Int)) (paa h.p u);refine ⟨⟨?_,(f d r (by omega)).trans h.c,m,(f e q (by omega)).trans h.n,(f g t (by omega)).trans h.x,(h.up.trans u).setNew (p:=⟨gP,0,none⟩) (by show _<=gP;omega) _⟩,f⟩;rw [World.size_setCell];exact xB h.sz u.size
theorem pr7 (C cs) (x:Nat) (w) (E:Sl w C cs) (f:∀ c∈cs,c<=9223372036854775807) (hl:cs.length<=1000000) (hx:x<=9223372036854775807) :
 Calls prog 258 #[C,x] w (Mk (.int .i64 (atL cs x cs.length:Int)) w):=by
 obtain ⟨a,X⟩:=ae (w.heap.size);obtain ⟨w0,G⟩:=ae (w.alloc (.cells #[C] 22));have A:=aW X G;have u0:=aU G;obtain ⟨M,B,rfl,_,_⟩:=E.form;obtain ⟨N,H⟩:=az (cs.length);rw [<-H] at A G E hl ⊢;have HN:=ah H;have HC:=ah E;have al:=ah f;obtain ⟨gP,U⟩:=ae (w0.heap.size);obtain ⟨w1,aa⟩:=ae (w0.alloc (.cells #[.int .i64 1] 3));have r1:=aW U aa;have P:=aU aa;have ad:=ah (paa A P);have Z:=ah r1;have ag:=ah (u0.trans P);have af:Hid (a<gP/\w.heap.size<=a):=⟨by rw [<-U];exact paf A,xJ X⟩
 have c0:w1.cell? ⟨a,0,none⟩=some (.slice M N B):=xa _ a 0 _ _ _ ad.out;have Y:=ah (pnF N x w1);clear H E f A u0 r1 P;refine callsIn_wide.1 (callsIn_of_wp_marks (n:=0) func258 rfl trivial ?_ rfl);refine wpIn_wide.2 ?_;simp only [ntmps258,yJ,xF,zG,Nat.reduceAdd,Nat.reduceSub,Array.replicate_succ,Array.replicate_zero,List.push_toArray,List.append_toArray,zk,yA];go_wp2_with fail;refine Y.out.mono ?_;rintro e j ⟨t,m,q,rfl,hq⟩;have g:Hid (AtSt 0 w j a gP t m (.slice M N B) N x (atL cs x 0)):=⟨xu _,paa ad.out hq,paa Z.out hq,q.out.2.2.1,q.out.2.2.2,ag.out.trans hq⟩
 have ao:Hid (gP<t/\gP<m):=by
  have h1:=paf Z.out;have:=q.out.1;have:=q.out.2.1;exact ⟨by omega,by omega⟩
 clear hq q Y;go_wp2_with fail;have O:=paf g.out.c;have T:=paf g.out.p;have R:=paf g.out.n;have J:=paf g.out.x;have Q:=g.out.up.size;have ac:=ah (xf O (xf T (xf R (xf J Q))));refine pgJ t m N x rfl hl hx (fun k W=>AtSt (j.heap.size+2) w W a gP t m (.slice M N B) N x (atL cs x k)) ?hI ?hput ?h0 ?a1 ?hassign ?hon ?hdone
 case hassign=>intro x y W K hK;gi_wp2;exact hK
 case hI=>intro k W h;exact ⟨xa _ t 0 _ _ _ h.n,xa _ m 0 _ _ _ h.x⟩
 case hput=>intro k W o h;exact h.put (by omega) (by omega) (by omega) (by omega) (by omega) o
 case h0 =>
  intro o;have h:=g.out;have a1:Uq j ((j.alloc (.deferred (some []))).alloc o):=(uR.alloc _).alloc _;exact ⟨(by simp),paa h.c a1,paa h.p a1,paa h.n a1,paa h.x a1,h.up.trans a1⟩
 case hon =>
  intro k W h aj;clear O T R J Q;obtain ⟨c,f⟩:∃ c,cs[k]? =some c:=⟨_,xd (by rw [<-HN.out];exact aj)⟩
  have ab:=al.out c (xt f);obtain ⟨y,v⟩:=az (atL cs x k);have an:y<=9223372036854775807:=by rw [v];have:=pr6 cs x k;omega
  obtain ⟨p,u⟩:=az (pwQ x k);have am:p<=9223372036854775807:=by rw [u];have:=pr5 x k;omega
  have ar:Hid (atL cs x (k+1)=y * pP c p % Pn):=by
   show _=_;rw [atL,<-v,<-u,show cs.getD k 0=c by rw [xx,f];rfl]
  rw [<-v] at h;rw [<-u];obtain ⟨cb,rfl,av⟩:=(HC.out.upd h.up).get f;have d:=ah h;have e0:W.cell? ⟨a,0,none⟩=some (.slice (some ⟨cb,0,none⟩) N B):=xa _ a 0 _ _ _ h.c;have e1:W.cell? ⟨gP,0,none⟩=some (.int .i64 (y:Int)):=xa _ gP 0 _ _ _ h.p;have e2:W.frozen? ⟨gP,0,none⟩=false:=xp _ gP 0 _ _ h.p;have i0:(0:Int)<=(k:Int):=by omega
  have i1:(k:Int)<(N:Int):=by omega
  have aq:=ah (fun W=>pmg c p 2305843009213691579 W ab am rfl);have ai:=ah (fun (r:Nat) (D:r<=9223372036854775807) W=>pkW y r W an D);have ax:prog.follows .mixedOrders=true:=by kernel_rfl
  clear h v u f ab
  gi_wp2
  gi_region_with_o (first | (refine ⟨trivial,rfl,?_⟩;gi_at_call 48;refine (CallsIn.inRound (j.heap.size+1) (callsIn_wide.2 (aq.out _))).mono ?_;rintro e w3 ⟨r,HR,D,rfl,hq⟩;have F:Uq W w3:=uR.drew.trans hq;clear hq;have f0:=xa _ a 0 _ _ _ (paa d.out.c F);have f1:=xa _ gP 0 _ _ _ (paa d.out.p F);have f2:=xp _ gP 0 _ _ (paa d.out.p F)) | (refine ⟨trivial,rfl,?_⟩;gi_at_call 47;refine (CallsIn.inRound (j.heap.size+1) (callsIn_wide.2 (ai.out _ (by omega) _))).mono ?_;rintro e w4 ⟨z,HZ,hz,rfl,rfl⟩))
  all_goals
   have ak:=ar.out;have D:=HR.out;have hz:=HZ.out;have hg:=af.out;have hb:=ao.out;have au:=ac.out;have aw:=d.out.sz;obtain ⟨k1,S⟩:=d.out.set F hg.1 hb.1 hb.2 hg.2 z;have ap:z=atL cs x (k+1):=by rw [ak,hz,D]
   rw [ap] at k1 S ⊢
   gi_wp2
   exact ⟨k1,S _ (by omega) (by omega),S _ (by omega) (by omega)⟩
 case hdone =>
  intro W h hD;have e1:W.cell? ⟨gP,0,none⟩=some (.int .i64 (atL cs x N:Int)):=xa _ gP 0 _ _ _ h.p;have d:=ah h;have HD:=ah hD;clear h hD O T R J Q;go_wp2_with fail;refine ⟨by simp,.inl ⟨_,_,rfl,run_takeDeferred HD.out,⟨_,results_tmp rfl _ _ _,?_⟩⟩⟩;exact ⟨rfl,d.out.up.putNew (by have:=ac.out;omega) _⟩
theorem pp6 (t:Nat) (w) (h1:1<=t) (d:t<=1000):Calls prog 291 #[t] w (Ret (.int .i64 (((t - 1) / 3:Nat):Int)) w):=by
 obtain ⟨y,c⟩:∃ y,t=y+1:=⟨t - 1,by omega⟩
 obtain ⟨m,a⟩:=az ((t - 1) / 3);rw [<-a];have n:IntKind.i64.wrap ((t:Int) - 1)=(y:Int):=by rw [pam (by omega) (by omega)];omega
 have h:(y:Int).tdiv 3=(m:Int):=by rw [xP (by omega)];omega
 have j:(y:Int) / 3=(m:Int):=by omega
 have e:(t:Int) - 1=(y:Int):=by omega
 have k:¬ (t:Int)<1:=by omega
 have f:¬ t<1:=by omega
 have g:m<=1000:=by omega
 clear a c;go_in;go_wp2;go_ret;exact ⟨rfl,rfl⟩
theorem pp7 (t:Nat) (w) (h1:1<=t) (d:t<=1000):Calls prog 257 #[t] w (Ret (.int .i64 (needN t:Int)) w):=by
 have c:=ah (pp6 t w h1 d);obtain ⟨m,a⟩:=az ((t - 1) / 3);have f:Hid (needN t=m+1):=by
  show _=_;unfold needN;rw [yy (by omega),a]
 rw [<-a] at c;have k:¬ (t:Int)<1:=by omega
 have j:¬ t<1:=by omega
 have g:m<=1000:=by omega
 clear a;go_in;go_wp2_with fail;refine c.out.mono ?_;rintro e h ⟨rfl,rfl⟩;go_wp2;go_ret;exact ⟨by rw [f.out];rfl,rfl⟩
theorem pjL {ws k z j} (h:j<z):(pcc ws k z)[j]? =some (startN ws k+j+1):=by
 unfold pcc;rw [ys,vw h];rfl
theorem pp8 (K P cs ws w) (v:WsOk ws) (f:Sl w K cs) (hP:pel w P (pdg ws)) (p:cs.length=needN ws.sum) (a:∀ c∈cs,memN c) :
 Calls prog 211 #[.agg #[K,P]] w (Mk (.bool true) w):=by
 obtain ⟨g,hg⟩:=ae (w.heap.size);obtain ⟨M,m⟩:=ae (w.alloc (.cells #[K,P] 30));have d:=aW hg m;have A:=aU m;have N:=v.sum;obtain ⟨pa,pc,rfl,_,_,hp⟩:=hP.upd A;obtain ⟨ka,kc,rfl,_,_⟩:=f.form;have U:=ah (f.upd A);have ag:=ah hp;have HW:=ah v;have HT:=ah (pbo ws);rw [pbA];rw [pbA] at d m;obtain ⟨n,h⟩:=az (ws.length);have HN:=ah h;have aA:n<=4:=by rw [h];exact v.2.1
 obtain ⟨q,hq⟩:=az (cs.length);rw [<-hq] at d m U;rw [<-h] at d m;have HQ:=ah hq;obtain ⟨S,t⟩:=az (ws.sum);rw [<-t] at N HT;have aE:1<=S/\S<=12:=by have:=N;omega
 have R:=ah (fun W=>pp7 S W (by omega) (by omega));have F:needN S=q:=by rw [hq,p,t]
 rw [F] at R;have aF:q<=1000:=by rw [<-F];unfold needN;split <;> omega
 have af:=ah A;have al:=ah a;have c0:M.cell? ⟨g,0,none⟩=some (.slice ka q kc):=xa _ g 0 _ _ _ d;have c1:M.cell? ⟨g,1,none⟩=some (.slice pa n pc):=xa _ g 1 _ _ _ d;have am:Hid (startN ws n=S):=by show (ws.take n).sum=S;rw [h,t,yb]
 rw [<-h,<-hq];clear hP hp f hq h t v N p a A d F;go_in;go_wp2;go_loopw [3,5,7,14] (fun x _ _ i wr=>∃ k:Nat,i=.int .i64 (k:Int)/\k<=n/\x=.int .i64 ((startN ws k+1:Nat):Int)/\wr=M) (fun _ _ _ i _=>n - (intOf i).toNat)
 case atStart=>exact ⟨0,rfl,xu _,rfl,rfl⟩
 case round =>
  obtain ⟨k,rfl,hk,rfl,G⟩:=hrel;subst G;by_cases T:k<n
  · obtain ⟨z,B⟩:∃ z,ws[k]? =some z:=⟨_,xd (by rw [<-HN.out];exact T)⟩
    have ay:=HW.out.2.2 z (xt B);have aq:=paS B;have ao:=HT.out (k+1);obtain ⟨X,r⟩:=az (startN ws k);have ak:(ws.take k).sum=X:=r.symm;have aD:X+z<=12:=by omega
    have ad:Hid (startN ws (k+1)=X+z):=by show (ws.take (k+1)).sum=_;omega
    have aC:=ah r;obtain ⟨gp,u,rfl,_,cu,C⟩:=ag.out k _ (pdD B);obtain ⟨ua,uc,rfl,_,_⟩:=C.form;rw [pb8] at cu C;have av:=ah C;have aw:Hid (∀ j,j<z->(pcc ws k z)[j]? =some (X+j+1)):=fun j Q=>by rw [pjL Q,r]
    rw [<-r];have i0:(0:Int)<=(k:Int):=by omega
    have i1:(k:Int)<(n:Int):=by omega
    have z0:((z:Int) == 0)=false:=by rw [xm];omega
    have z1:(z == 0)=false:=by rw [xm];omega
    have z2:¬ z=0:=by omega
    clear B aq ao r ak C;go_wp2;go_loopw [3,7,23] (fun x _ i H=>∃ j:Nat,i=.int .i64 (j:Int)/\j<=z/\x=.int .i64 ((X+1+j:Nat):Int)/\H=wr) (fun _ _ i _=>z - (intOf i).toNat)
    case atStart=>exact ⟨0,rfl,xu _,rfl,rfl⟩
    case round =>
     obtain ⟨j,rfl,Q,rfl,G⟩:=hrel;subst G;by_cases ar:j<z
     · obtain ⟨b,rfl,cx⟩:=av.out.get (aw.out j ar);have j0:(0:Int)<=(j:Int):=by omega
       have j1:(j:Int)<(z:Int):=by omega
       obtain ⟨y,J⟩:=az (X+j+1);have Z:X+1+j=y:=by omega
       have aB:y<=1000:=by omega
       rw [<-J] at cx;rw [Z];have HY:=ah J;clear J Z;go_wp2_with fail;have ap:=HY.out;exact ⟨⟨j+1,by go_num,by omega,(by rw [ap];go_num)⟩,(by first | (simp [intOf];done) | (simp [intOf];omega))⟩
     · obtain rfl:j=z:=by omega
       go_wp2_with fail;have aj:=ad.out;exact ⟨⟨k+1,by go_num,by omega,(by rw [aj];go_num)⟩,(by first | (simp [intOf];done) | (simp [intOf];omega))⟩
  · obtain rfl:k=n:=by omega
    have an:=am.out;rw [an];clear T hk;have g1:¬ (S:Int)<1:=by omega
    have g2:¬ (60:Int)<(S:Int):=by omega
    have g3:¬ 60<S:=by omega
    have g4:¬ S<1:=by omega
    have HK:Hid (∀ W,Uq wr W->W.cell? ⟨g,0,none⟩=some (.slice ka q kc)):=fun W u=>(u.cell (x6 _ _ c0) (by simp)).trans c0;have o:Uq wr wr.drew:=uR.drew;go_upto_region 16 with (fail)
    refine bH HK o fun D=>?_;refine tkS [0,1,2,3,4,5,6,7,8,9,10] D ?_;refine tk1 11 fun K f=>?_;go_simp;refine (R.out _).mono ?_;rintro e aG ⟨rfl,rfl⟩;go_wp2_with fail;refine tkK f (HK.out _ o) fun D=>?_;clear f K;refine tkS [12,13] D ?_;refine tkD ?_;go_wp2_with fail;obtain ⟨wd,ab⟩:=ae (wr.drew);have Y:=ah (U.out.upd o);have aa:=ah (af.out.trans o);rw [ab] at Y aa ⊢;clear ab o;go_loopw [10,53] (fun _ i H=>∃ j:Nat,i=.int .i64 (j:Int)/\j<=q/\Hid (Uq wd H)) (fun _ i _=>q - (intOf i).toNat)
    case atStart=>exact ⟨0,rfl,xu _,Upd.refl _ _⟩
    case round =>
     obtain ⟨j,rfl,Q,E⟩:=hrel;by_cases ai:j<q
     · obtain ⟨c,O⟩:∃ c,cs[j]? =some c:=⟨_,xd (by rw [<-HQ.out];exact ai)⟩
       have a:=al.out c (xt O);have p:=a.2.1;obtain ⟨b,rfl,cx⟩:=(Y.out.upd E.out).get O;have ax:=ah (fun W=>paq (c:Int) true W (by unfold Pn at p;unfold pab;omega) ((pbG c).2 a));have j0:(0:Int)<=(j:Int):=by omega
       have j1:(j:Int)<(q:Int):=by omega
       clear O a p;go_wp2_with fail;refine (ax.out _).mono ?_;rintro e w3 ⟨rfl,ac⟩;have au:=ah (E.out.trans ac);clear ac;go_wp2_with fail;exact ⟨⟨j+1,by go_num,by omega,au.out⟩,(by first | (simp [intOf];done) | (simp [intOf];omega))⟩
     · obtain rfl:j=q:=by omega
       go_wp2;go_ret;exact ⟨rfl,aa.out.trans E.out⟩
end Go.Proofs.YtkhjolbbpdaplaaGreatDoor
