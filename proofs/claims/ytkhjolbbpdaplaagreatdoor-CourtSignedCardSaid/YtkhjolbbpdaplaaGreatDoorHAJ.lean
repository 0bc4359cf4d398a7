/- entry.Read: the walk and what follows. -/
import Derived.Test.YtkhjolbbpdaplaaGreatDoorHAI
namespace Go.Proofs.YtkhjolbbpdaplaaGreatDoor
set_option maxHeartbeats 4000000
open Go.RowKit Go.Proofs.Tryz
set_option maxRecDepth 100000
abbrev xL:=@run_loadAt_mid
abbrev um:=@List.cons.injEq
abbrev vq:=@run_part_plain
def MkRc (l:List UInt8) (w:World) (e:Ending) (w':World):Prop:=∃ (x:Rc) (ok:Bool),Hid (rcOk l x ok)/\e=.returned (.tuple #[.agg (rcV x).toArray,.bool ok])/\Upd [] [] w w'
structure RdSt (w wi:World) (rest:ByteArray) (q:Bool) (x:Rc):Prop where
 rz:RcAt wi w.heap.size Rc.zero
 rd:RdAt wi (w.heap.size+1) rest q
 rc:RcAt wi (w.heap.size+1+1) x
 up:Upd [] [] w wi
 ok:x.ok
theorem RdSt.step {w f a r c q e x} (h:RdSt w f r q x) (u:Upd [w.heap.size+1] [] f a) (d:RdAt a (w.heap.size+1) c e):RdSt w a c e x :=
 ⟨pfE h.rz u (by omega),d,pfE h.rc u (by omega),h.up.own2 u (by omega),h.ok⟩
theorem RdSt.cell {w a r q x y} (h:RdSt w a r q x) (j v) (d:RcAt (a.setCell ⟨w.heap.size+1+1,j,none⟩ v) (w.heap.size+1+1) y) (c:y.ok):RdSt w (a.setCell ⟨w.heap.size+1+1,j,none⟩ v) r q y :=
 ⟨pa7 h.rz (by omega) v,pa7 h.rd (by omega) v,d,h.up.setNew (p:=⟨w.heap.size+1+1,j,none⟩) (by show w.heap.size<=w.heap.size+1+1;omega) v,c⟩
theorem RdSt.cells {w a r q x y} (h:RdSt w a r q x) (j V) (d:RcAt (a.setCells (w.heap.size+1+1) j V) (w.heap.size+1+1) y) (c:y.ok):RdSt w (a.setCells (w.heap.size+1+1) j V) r q y :=
 ⟨pc8 (by omega) V j _ h.rz,pc8 (by omega) V j _ h.rd,d,Upd.setCellsNew (by omega) V j _ h.up,c⟩
theorem RdSt.start (w s):RdSt w (((w.alloc (.cells Tryz.zeroCells62 62)).alloc (.cells #[.string s,.bool false] 107)).alloc (.cells Tryz.zeroCells62 62)) s false Rc.zero:=by
 have a:Tryz.zeroCells62=(rcV Rc.zero).toArray:=rfl;refine ⟨?_,?_,?_,((uR.alloc _).alloc _).alloc _,Rc.zero_ok⟩
 · rw [a];exact paa (xi w _) (((Upd.refl [] _).alloc _).alloc _)
 · have h:=paa (xi (w.alloc (.cells Tryz.zeroCells62 62)) (.cells #[.string s,.bool false] 107)) ((Upd.refl [] _).alloc (.cells Tryz.zeroCells62 62));rw [yI] at h;exact h
 · have h:=xi ((w.alloc (.cells Tryz.zeroCells62 62)).alloc (.cells #[.string s,.bool false] 107)) (.cells Tryz.zeroCells62 62);rw [yI,yI] at h;unfold RcAt;rw [<-a];exact h
theorem wpList_store_midAs {P e rest c a w Q} (f:c.guard=none) (d x y) (n:c.op=.store d x y)
 (b o cells) (g:a.eval x=.pointer (some ⟨b,o,none⟩)) (p:a.eval y=.agg cells)
 (m:w.there b o cells.size) (j:(P.info? d).map (·.size)=some cells.size) (h1:cells.all (·.oneCell')=true) (w') (k:w.setCells b o cells.toList=w')
 (h:wpList P e Q rest (a.put c.dst undef) w'):wpList P e Q (c :: rest) a w:=by
 subst k;exact wpList_store_mid f d x y n b o cells g p m j h1 h
theorem wpList_load_want {P c rest o a w Q} (g:Region.wanted o (yielded c a.tmps)=true) (d x) (j:o.op=.load d x)
 (b) (e:a.eval x=.pointer (some ⟨b,0,none⟩)) (C) (f:(Instr.loadAt d (.pointer (some ⟨b,0,none⟩))).run P w=.ok (.agg C) w)
 (h:wpList P c Q rest (a.put o.dst (.agg C)) w):wpList P c Q (o :: rest) a w:=by
 refine wpList_step fun K k=>?_;rw [xH g];unfold Oper.wp execOp;simp only [j,e,yT,f,yr];exact k _ _ h
theorem poM {h:List UInt8} (l:h.length=32):(byteVals h).toArray.size=32:=by simp [byteVals,l]
theorem pm2 (s w) (hs:s.size<=1000000000) (o:Tabs w):Calls prog 9 #[.string s] w (MkRc (bs s) w):=by
 have aK:∀ (fn:Fn) (first ao:Array Value) (w:World),(Instr.makeFunc fn first ao).run prog w=.ok (.func fn first ao) w:=fun _ _ _ _=>rfl;have S0:=RdSt.start w s;have F:w.heap.size<=w.heap.size+1:=by omega
 go_in;go_wp2_with fail;refine (pqZ (w.heap.size+1) s false _ w S0.up F S0.rd (by omega) o).mono ?_;rintro e w1 ⟨a,b,r1,q1,H1,ha,hb,l1,rfl,D1,c⟩;have d:=S0.step c D1;clear c S0;have B:=d.rc.frozen 100;have f1:=d.rc.frozen 101;obtain ⟨D,c1⟩:=d.rc.sig d.ok;have aj:({ Rc.zero with r:=a,s:=b }:Rc).ok:=⟨d.ok.1,d.ok.2.1,d.ok.2.2.1,d.ok.2.2.2.1,d.ok.2.2.2.2.1,d.ok.2.2.2.2.2.1,ha,hb⟩
 have S2:RdSt w ((w1.setCell ⟨w.heap.size+1+1,100,none⟩ (.int .i64 a)).setCell ⟨w.heap.size+1+1,101,none⟩ (.int .i64 b)) r1 q1 { Rc.zero with r:=a,s:=b } :=
  ⟨pa7 (pa7 d.rz (by omega) _) (by omega) _,pa7 (pa7 d.rd (by omega) _) (by omega) _,d.rc.sigs d.ok a b,(d.up.setNew (p:=⟨w.heap.size+1+1,100,none⟩) (by show w.heap.size<=w.heap.size+1+1;omega) _).setNew (p:=⟨w.heap.size+1+1,101,none⟩) (by show w.heap.size<=w.heap.size+1+1;omega) _,aj⟩
 clear d D1;go_wp2_with fail;clear D c1 B f1;generalize ((w1.setCell ⟨w.heap.size+1+1,100,none⟩ (.int .i64 a)).setCell ⟨w.heap.size+1+1,101,none⟩ (.int .i64 b))=w2 at *;clear w1;refine (pfD (w.heap.size+1) r1 q1 w2 S2.rd (by omega) (o.upd S2.up)).mono ?_;rintro e w3 ⟨t2,r2,q2,H2,aJ,l2,rfl,D2,c⟩;have S3:=S2.step c D2;clear c S2 D2;go_wp2_with fail;refine (pgg (w.heap.size+1) r2 q2 w3 w S3.up F S3.rd (by omega) o).mono ?_;rintro e w4 ⟨k,r3,q3,H3,ik,l3,rfl,D3,c⟩;have G:=S3.step c D3;clear c S3 D3;have B:=G.rc.frozen 0;have D:=G.rc.head.1;have S5:=G.cell 0 (.int .i64 k) (G.rc.kiosk k) (⟨ik,G.ok.2⟩);clear G;go_wp2_with fail;clear B D;generalize (w4.setCell ⟨w.heap.size+1+1,0,none⟩ (.int .i64 k))=w5 at *;clear w4;refine (pgg (w.heap.size+1) r3 q3 w5 w S5.up F S5.rd (by omega) o).mono ?_;rintro e w6 ⟨m,r4,q4,H4,im,l4,rfl,D4,c⟩;have E:=S5.step c D4;clear c S5 D4;have B:=E.rc.frozen 1;have D:=E.rc.head.2.1;have S7:=E.cell 1 (.int .i64 m) (E.rc.serial m) (⟨E.ok.1,im,E.ok.2.2⟩);clear E;go_wp2_with fail;clear B D;generalize (w6.setCell ⟨w.heap.size+1+1,1,none⟩ (.int .i64 m))=w7 at *;clear w6;refine (pgg (w.heap.size+1) r4 q4 w7 w S7.up F S7.rd (by omega) o).mono ?_;rintro e w8 ⟨z,r5,q5,H5,iz,l5,rfl,D5,c⟩;have v:=S7.step c D5;clear c S7 D5;have B:=v.rc.frozen 3;have D:=v.rc.head.2.2.2;have S9:=v.cell 3 (.int .i64 z) (v.rc.seen z) (⟨v.ok.1,v.ok.2.1,iz,v.ok.2.2.2⟩);clear v;go_wp2_with fail;clear B D;generalize (w8.setCell ⟨w.heap.size+1+1,3,none⟩ (.int .i64 z))=w9 at *;clear w8;refine (pgh (w.heap.size+1) r5 q5 w9 w S9.up F S9.rd (by omega) o).mono ?_;rintro e al ⟨h1,r6,q6,H6,M,l6,rfl,D6,c⟩;have n:=S9.step c D6;clear c S9 D6;have Q:=n.cells 4 (byteVals h1) (n.rc.out n.ok M) ⟨n.ok.1,n.ok.2.1,n.ok.2.2.1,M,n.ok.2.2.2.2⟩;have A:=ah (n.rc.there n.ok 4 (byteVals h1).toArray.size (by rw [poM M];omega));clear n;obtain ⟨ap,j⟩:=ae (al.setCells (w.heap.size+1+1) 4 (byteVals h1));rw [j] at Q;have u:=ah j;have ay:=ah M;clear j M;go_wp2_with (refine wpList_store_midAs rfl 60 _ _ rfl (w.heap.size+1+1) 4 (byteVals h1).toArray rfl rfl A.out (hashInfo ay.out) (hashOne _) ap u.out ?_)
 clear A u al;refine (pgh (w.heap.size+1) r6 q6 ap w Q.up F Q.rd (by omega) o).mono ?_;rintro e au ⟨H,r7,q7,H7,K,l7,rfl,D7,c⟩;have g:=Q.step c D7;clear c Q D7;have N:=g.cells 36 (byteVals H) (g.rc.hash g.ok K) ⟨g.ok.1,g.ok.2.1,g.ok.2.2.1,g.ok.2.2.2.1,K,g.ok.2.2.2.2.2⟩;have A:=ah (g.rc.there g.ok 36 (byteVals H).toArray.size (by rw [poM K];omega));clear g;obtain ⟨ar,j⟩:=ae (au.setCells (w.heap.size+1+1) 36 (byteVals H));rw [j] at N;have u:=ah j;have ax:=ah K;clear j K;go_wp2_with (refine wpList_store_midAs rfl 60 _ _ rfl (w.heap.size+1+1) 36 (byteVals H).toArray rfl rfl A.out (hashInfo ax.out) (hashOne _) ar u.out ?_)
 clear A u au;refine (pgh (w.heap.size+1) r7 q7 ar w N.up F N.rd (by omega) o).mono ?_;rintro e av ⟨J,x,q8,H8,R,l8,rfl,D8,c⟩;have f:=N.step c D8;clear c N D8;have t:=f.cells 68 (byteVals J) (f.rc.prev f.ok R) ⟨f.ok.1,f.ok.2.1,f.ok.2.2.1,f.ok.2.2.2.1,f.ok.2.2.2.2.1,R,f.ok.2.2.2.2.2.2⟩;have A:=ah (f.rc.there f.ok 68 (byteVals J).toArray.size (by rw [poM R];omega));clear f;obtain ⟨Z,j⟩:=ae (av.setCells (w.heap.size+1+1) 68 (byteVals J));rw [j] at t;have u:=ah j;have aw:=ah R;clear j R;go_upto_region 12 with (first | (refine wpList_store_midAs rfl 60 _ _ rfl (w.heap.size+1+1) 68 (byteVals J).toArray rfl rfl A.out (hashInfo aw.out) (hashOne _) Z u.out ?_))
 clear A u av;obtain ⟨X,U⟩:∃ X:Rc,X=⟨k,m,z,x,h1,H,J,a,b⟩:=⟨_,rfl⟩
 have an:Hid (∀ y:Rc,y.ok->bs s=pcg y->X=y/\q8=false):=by
  intro y hy e;rw [U];exact ptC H1.out H2.out H3.out H4.out H5.out H6.out H7.out H8.out hy e
 have am:=t.cell 2 (.string x) (t.rc.draw x) t.ok;have aA:({ { { { { { { { Rc.zero with r:=a,s:=b } with kiosk:=k } with serial:=m } with seen:=z } with out:=h1 } with hash:=H } with prev:=J } with draw:=x }:Rc)=X:=U.symm;have q:RdSt w (Z.setCell ⟨w.heap.size+1+1,2,none⟩ (.string x)) x q8 X:=by
  rw [U];exact am
 have ai:X.draw.size<=1000000000:=by rw [U];show x.size<=_;omega
 have O:=ah q.ok;have aB:=ah ai;clear U aA am ai H1 H2 H3 H4 H5 H6 H7 H8 aj;obtain ⟨k0,k1,k2,k3⟩:=t.rd.cells;have c2:=t.rc.head.2.2.1;have f2:=t.rc.frozen 2;clear t;go_upto_region 13 with (fail)
 clear k0 k1 k2 k3 c2 f2;generalize (Z.setCell ⟨w.heap.size+1+1,2,none⟩ (.string x))=w16 at *;clear Z;obtain ⟨k0,k1,k2,k3⟩:=q.rd.cells;have ac:=ah q.rz;have ag:=ah q.up;have W:=ah (rcSz Rc.zero_ok)
 cases q8 with
 | true =>
  have T:Hid (rcOk (bs s) Rc.zero false):=⟨Rc.zero_ok,(fun h=>by cases h),fun _=>⟨rfl,fun y hy e=>by have:=(an.out y hy e).2;cases this⟩⟩
  clear q;go_wp2_with (refine yH rfl 62 _ _ rfl w.heap.size (rcV Rc.zero).toArray rfl rfl _ _ ac.out W.out rfl (rcOne _) ?_)
  refine xI (results_row_tmp rfl _ _ w.heap.size _ (rcV Rc.zero).toArray _ _ rfl (ac.out.setRow Rc.zero) underlying62 rfl W.out) rfl ⟨Rc.zero,false,T.out,rfl,ag.out.setRowNew (xj _) _⟩
 | false =>
  have af:=xL (P:=prog) w16 (w.heap.size+1+1) 0 62 (rcV X) _ q.rc.all underlying62 rfl (pdy O.out);have ab:=ah (pm1 X O.out aB.out w16 (o.upd q.up));have aH:=ah q.rc;obtain ⟨C,hC⟩:=az ((rcV X).toArray);rw [<-hC] at af ab;have S:=ah hC;clear q hC;have ak:=ah af;clear af;go_wp2_with (refine wpList_load_want (by rfl) 62 _ rfl (w.heap.size+1+1) rfl C ak.out ?_)
  refine ab.out.mono ?_;rintro e aG ⟨y,HY,hy,rfl,hq⟩;have aC:=ah (aH.out.upd hq);have Y:=ah (ac.out.upd hq);have aq:=ah (ag.out.trans hq);have aE:Hid (aG.heap[w.heap.size+1+1]? =some (.cells C 62 (0,0))):=by show _=_;rw [S.out];exact aC.out
  have aa:Fi 62 C:=by show _=_;rw [S.out];exact rcSz O.out
  have aD:Fo C:=by show _=_;rw [S.out];exact rcOne _
  have aI:Hid ((rcV Rc.zero).toArray.size=C.size):=by show _=_;rw [S.out];simp [paM O.out,paM Rc.zero_ok]
  clear hq k0 k1 k2 k3 ab ak;by_cases ad:y=s
  · subst ad;have T:Hid (rcOk (bs y) X true):=⟨O.out,fun _=>HY.out,fun h=>by cases h⟩
    go_wp2_with (first | (refine bL aE underlying62 aa ?_) | (refine bV Y aa aI aD ?_))
    refine xI (results_row_tmp rfl _ _ w.heap.size _ C _ _ rfl (xz _ _ _ C _ _ Y.out) underlying62 rfl aa.out) rfl ⟨X,true,T.out,by rw [S.out];rfl,aq.out.setRowNew (xj _) _⟩
  · have T:Hid (rcOk (bs s) Rc.zero false):=⟨Rc.zero_ok,(fun h=>by cases h),fun _=>⟨rfl,fun y' aF e=>by
     have h:=(an.out y' aF e).1;rw [<-h,<-HY.out] at e;exact ad (pcI e.symm)⟩⟩
    have h4:¬ y.toList=s.toList:=fun e=>ad (pcI (by rw [yi,yi] at e;exact e));have aL:(y.toList == s.toList)=false:=xm.2 h4;clear h4;go_wp2_with (refine yH rfl 62 _ _ rfl w.heap.size (rcV Rc.zero).toArray rfl rfl _ _ Y.out W.out rfl (rcOne _) ?_)
    refine xI (results_row_tmp rfl _ _ w.heap.size _ (rcV Rc.zero).toArray _ _ rfl (Y.out.setRow Rc.zero) underlying62 rfl W.out) rfl ⟨Rc.zero,false,T.out,rfl,aq.out.setRowNew (xj _) _⟩
theorem phc {a w w'} (h:Uq a w) (k:Below a.heap.size w w'):Uq a w' :=
 ⟨k.os.trans h.os,k.tape.trans h.tape,k.output.trans h.output,xB h.size k.size,fun i c _=>(k.block i c).trans (h.block i c (by simp)),fun _ d=>absurd d (by simp)⟩
structure BtSt (W0 wi:World) (acc:List UInt8):Prop where
 bd:Lib.IsBuilder 172 5 W0.heap.size W0.heap.size (Lib.byteCells acc) wi
 up:Upd [] [] W0 wi
def puL (w:World) (ao:Option Addr) (l:List Rc):Prop :=
 ∀ (k:Nat) x,l[k]? =some x->x.ok/\x.draw.size<=1000000/\∃ g o,ao=some ⟨g,o,none⟩/\g<w.heap.size/\w.rangeAt g (o+k * 102) (rcV x)
theorem pss (d a b w):(Op.equalIn (d+1) 5 (pbj a) (pbj b)).run prog w=.ok (decide (a=b)) w:=by
 unfold pbj;rw [run_equalIn_int w d 5 .u8 .u8 _ _ underlying5];congr 1;by_cases h:a=b
 · rw [h];simp
 · have:¬ (a.toNat:Int)=b.toNat:=fun e=>h (zQ.1 (by omega));simp [h,this]
theorem per (d l m w) (f:l.length=m.length):∀ n k,k+n=l.length->(Op.eqItems (d+1) 5 1 (byteVals l).toArray (byteVals m).toArray (List.range' k n)).run prog w=.ok (decide (l.drop k=m.drop k)) w
 | 0,k,h=>by
  have g:l.drop k=[]:=List.drop_eq_nil_of_le (by omega)
  have q:m.drop k=[]:=List.drop_eq_nil_of_le (by omega)
  simp [Op.eqItems,g,q]
 | n+1,k,h=>by
  have c:k<l.length:=by omega
  have a:k<m.length:=by omega
  have p:∀ (z:List UInt8) (e:k<z.length),(part 5 (byteVals z).toArray (k * 1)).run prog w=.ok (pbj z[k]) w:=by
   intro z e;refine vq w (by kernel_rfl) ?_;rw [zf,xD,byteVals,ys,xd e];rfl
  rw [List.range'_succ];simp only [Op.eqItems,yT,p l c,p m a,yr,pss];have j:(l.drop k=m.drop k) ↔ (l[k]=m[k]/\l.drop (k+1)=m.drop (k+1)):=by
   rw [xZ c,xZ a,um]
  rw [show decide (l.drop k=m.drop k)=(decide (l[k]=m[k]) && decide (l.drop (k+1)=m.drop (k+1))) from by rw [Bool.eq_iff_iff];simp only [decide_eq_true_eq,yR];exact j];have o:=per d l m w f n (k+1) (by omega)
  cases decide (l[k]=m[k])
  · rfl
  · exact o
theorem pb0 (d c e f g w a b r rest) (k : f.name ≠ "_") (m : (part f.type c f.offset).run prog w = .ok a w) (j : (part f.type e f.offset).run prog w = .ok b w)
 (h:(Op.equalIn d f.type a b).run prog w=.ok r w) (hq:(Op.eqFields d c e g).run prog w=.ok rest w):(Op.eqFields d c e (f :: g)).run prog w=.ok (r && rest) w:=by
 rw [Op.eqFields,xH k];simp only [yT,m,j,h,yr]
 cases r
 · rfl
 · exact hq
theorem peR (d l m w) (e:l.length=32) (f:m.length=32):(Op.equalIn (d+2) 60 (.agg (byteVals l).toArray) (.agg (byteVals m).toArray)).run prog w=.ok (decide (l=m)) w:=by
 obtain ⟨i,a⟩:∃ i,prog.info? 5=some i:=by
  have h:(prog.info? 5).isSome=true:=by kernel_rfl
  exact Option.isSome_iff_exists.1 h
 have c:prog.cellsOf 5=1:=by kernel_rfl
 rw [run_equalIn_array w (d+1) _ _ underlying60 a,c,List.range_eq_range',per d l m w (by omega) 32 0 (by omega)];simp
theorem poN (d a b c b' w):(Op.equalIn (d+2) 39 (.agg #[.int .i64 a,.int .i64 b]) (.agg #[.int .i64 c,.int .i64 b'])).run prog w=.ok (decide (a=c/\b=b')) w:=by
 have f:prog.underlying 39=some (.struct (prog.fieldsOf 39)):=by kernel_rfl
 have p:∀ (z:Array Value) (j:Nat) (v:Value),z[j]? =some v->(part 3 z j).run prog w=.ok v w:=fun z j v h=>vq w (by kernel_rfl) h;have q:∀ (a b:Int),(Op.equalIn (d+1) 3 (.int .i64 a) (.int .i64 b)).run prog w=.ok (a == b) w:=fun a b=>run_equalIn_int w d 3 .i64 .i64 a b underlying3;rw [run_equalIn_struct w (d+1) 39 _ _ f (by kernel_rfl)];simp only [Program.fieldsOf,underlying39];have e:decide (a=c/\b=b')=((a == c) && ((b == b') && true)):=by
  by_cases h1:a=c <;> by_cases g:b=b' <;> simp [h1,g]
 rw [e];exact pb0 (d+1) #[a,b] #[c,b'] _ _ w _ _ _ _ (by simp) (p #[a,b] 0 (.int .i64 a) rfl) (p #[c,b'] 0 (.int .i64 c) rfl) (q a c) (pb0 (d+1) #[a,b] #[c,b'] _ _ w _ _ _ true (by simp) (p #[a,b] 1 (.int .i64 b) rfl) (p #[c,b'] 1 (.int .i64 b') rfl) (q b b') rfl)
def eqRc (x y:Rc):Bool:=decide (x.kiosk=y.kiosk) && (decide (x.serial=y.serial) && ((x.draw.toList == y.draw.toList) && (decide (x.seen=y.seen) && (decide (x.out=y.out) && (decide (x.hash=y.hash) && (decide (x.prev=y.prev) && decide (x.r=y.r/\x.s=y.s)))))))
theorem phZ {A B C:List Value} {o n} (a:A.length=o) (c:B.length=n):(A ++ (B ++ C)).toArray.extract o (o+n)=B.toArray:=by
 apply Array.ext';rw [Array.toList_extract];subst a c;simp [List.extract]
theorem plW {x} (f:x.ok):(rcV x).toArray.extract 4 (4+32)=(byteVals x.out).toArray/\(rcV x).toArray.extract 36 (36+32)=(byteVals x.hash).toArray/\(rcV x).toArray.extract 68 (68+32)=(byteVals x.prev).toArray/\(rcV x).toArray.extract 100 (100+2)=#[.int .i64 x.r,.int .i64 x.s]/\(rcV x).toArray[0]? =some (.int .i64 x.kiosk)/\(rcV x).toArray[1]? =some (.int .i64 x.serial)/\(rcV x).toArray[2]? =some (.string x.draw)/\(rcV x).toArray[3]? =some (.int .i64 x.seen):=by
 obtain ⟨_,_,_,h1,g,h,_⟩:=f;have a:(byteVals x.out).length=32:=by rw [pak,h1]
 have c:(byteVals x.hash).length=32:=by rw [pak,g]
 have d:(byteVals x.prev).length=32:=by rw [pak,h]
 refine ⟨phZ (A:=[.int .i64 x.kiosk,.int .i64 x.serial,.string x.draw,.int .i64 x.seen]) rfl a,?_,?_,?_,rfl,rfl,rfl,rfl⟩
 · have e:rcV x=([.int .i64 x.kiosk,.int .i64 x.serial,.string x.draw,.int .i64 x.seen] ++ byteVals x.out) ++ (byteVals x.hash ++ (byteVals x.prev ++ [.int .i64 x.r,.int .i64 x.s])):=by simp [rcV]
   rw [e];exact phZ (by simp [a]) c
 · have e:rcV x=([.int .i64 x.kiosk,.int .i64 x.serial,.string x.draw,.int .i64 x.seen] ++ byteVals x.out ++ byteVals x.hash) ++ (byteVals x.prev ++ [.int .i64 x.r,.int .i64 x.s]):=by simp [rcV]
   rw [e];exact phZ (by simp [a,c]) d
 · have e:rcV x=([.int .i64 x.kiosk,.int .i64 x.serial,.string x.draw,.int .i64 x.seen] ++ byteVals x.out ++ byteVals x.hash ++ byteVals x.prev) ++ ([.int .i64 x.r,.int .i64 x.s] ++ []):=by simp [rcV]
   rw [e];exact phZ (by simp [a,c,d]) rfl
theorem pq0 (d x y) (g:x.ok) (n:y.ok) (w):(Op.equalIn (d+3) 62 (.agg (rcV x).toArray) (.agg (rcV y).toArray)).run prog w=.ok (eqRc x y) w:=by
 have U:prog.underlying 62=some (.struct (prog.fieldsOf 62)):=by kernel_rfl
 obtain ⟨X,H,J,A,x0,x1,x2,x3⟩:=plW g;obtain ⟨y4,S,P,t,y0,y1,W,y3⟩:=plW n;obtain ⟨_,_,_,R,T,K,_⟩:=g;obtain ⟨_,_,_,O,G,F,_⟩:=n;have p:∀ (z:Array Value) (j:Nat) (v:Value),z[j]? =some v->(part 3 z j).run prog w=.ok v w:=fun z j v h=>vq w (by kernel_rfl) h;have ps:∀ (z:Array Value) (j:Nat) (v:Value),z[j]? =some v->(part 9 z j).run prog w=.ok v w:=fun z j v h=>vq w (by kernel_rfl) h;have q:∀ (a b:Int),(Op.equalIn (d+2) 3 (.int .i64 a) (.int .i64 b)).run prog w=.ok (decide (a=b)) w:=fun a b=>by
  rw [run_equalIn_int w (d+1) 3 .i64 .i64 a b underlying3];congr 1
 have qs:∀ (a b:ByteArray),(Op.equalIn (d+2) 9 (.string a) (.string b)).run prog w=.ok (a.toList == b.toList) w:=fun a b=>run_equalIn_string w (d+1) 9 a b underlying9;have c:∀ (z:Array Value) (j:Nat),(part 60 z j).run prog w=.ok (.agg (z.extract j (j+32))) w:=fun z j=>by
  simp [part,isAgg,run_underlying underlying60]
 have m:∀ (z:Array Value) (j:Nat),(part 39 z j).run prog w=.ok (.agg (z.extract j (j+2))) w:=fun z j=>by
  simp [part,isAgg,run_underlying underlying39]
 rw [run_equalIn_struct w (d+2) 62 _ _ U (by kernel_rfl)];simp only [Program.fieldsOf,underlying62];generalize (rcV x).toArray=C at *;generalize (rcV y).toArray=D at *;have Z:(part 60 C 4).run prog w=.ok (.agg (byteVals x.out).toArray) w:=by rw [c,X]
 have N:(part 60 D 4).run prog w=.ok (.agg (byteVals y.out).toArray) w:=by rw [c,y4]
 have Q:(part 60 C 36).run prog w=.ok (.agg (byteVals x.hash).toArray) w:=by rw [c,H]
 have B:(part 60 D 36).run prog w=.ok (.agg (byteVals y.hash).toArray) w:=by rw [c,S]
 have M:(part 60 C 68).run prog w=.ok (.agg (byteVals x.prev).toArray) w:=by rw [c,J]
 have u:(part 60 D 68).run prog w=.ok (.agg (byteVals y.prev).toArray) w:=by rw [c,P]
 have E:(part 39 C 100).run prog w=.ok (.agg #[x.r,x.s]) w:=by rw [m,A]
 have o:(part 39 D 100).run prog w=.ok (.agg #[y.r,y.s]) w:=by rw [m,t]
 have Y : ∀ f, f.name ≠ "_" -> f.type = 39 -> f.offset = 100 -> (Op.eqFields (d + 2) C D [f]).run prog w = .ok (decide (x.r = y.r /\ x.s = y.s)) w := by
  rintro f hn e k;have:=pb0 (d+2) C D f [] w _ _ _ true hn (by rw [e,k];exact E) (by rw [e,k];exact o) (by rw [e];exact poN d _ _ _ _ w) rfl;rw [Bool.and_true] at this;exact this
 exact pb0 (d+2) C D _ _ w _ _ _ _ (by simp) (p C 0 _ x0) (p D 0 _ y0) (q _ _)
  (pb0 (d+2) C D _ _ w _ _ _ _ (by simp) (p C 1 _ x1) (p D 1 _ y1) (q _ _)
  (pb0 (d+2) C D _ _ w _ _ _ _ (by simp) (ps C 2 _ x2) (ps D 2 _ W) (qs _ _)
  (pb0 (d+2) C D _ _ w _ _ _ _ (by simp) (p C 3 _ x3) (p D 3 _ y3) (q _ _)
  (pb0 (d+2) C D _ _ w _ _ _ _ (by simp) Z N (peR d _ _ w R O)
  (pb0 (d+2) C D _ _ w _ _ _ _ (by simp) Q B (peR d _ _ w T G)
  (pb0 (d+2) C D _ _ w _ _ _ _ (by simp) M u (peR d _ _ w K F)
  (Y _ (by simp) rfl rfl)))))))
theorem wpList_load_atW {P c rest o a w Q} (g:Region.wanted o (yielded c a.tmps)=true) (d x) (j:o.op=.load d x)
 (b of) (e:a.eval x=.pointer (some ⟨b,of,none⟩)) (C) (f:(Instr.loadAt d (.pointer (some ⟨b,of,none⟩))).run P w=.ok (.agg C) w)
 (h:wpList P c Q rest (a.put o.dst (.agg C)) w):wpList P c Q (o :: rest) a w:=by
 refine wpList_step fun K k=>?_;rw [xH g];unfold Oper.wp execOp;simp only [j,e,yT,f,yr];exact k _ _ h
theorem rcI:∃ i,prog.info? 62=some i/\i.zero=some (.agg (rcV Rc.zero).toArray)/\i.size=102/\i.bytes=152:=by
 have h:(prog.info? 62).map (fun i=>(i.zero,i.size,i.bytes))=some (some (.agg (rcV Rc.zero).toArray),102,152):=by kernel_rfl
 obtain ⟨i,c,a⟩:=yp.1 h;simp only [yY] at a;exact ⟨i,c,a.1,a.2.1,a.2.2⟩

theorem pap {P d S c a} (k:Region.wanted c (yielded d a.tmps)=true) (e x) (j:c.op=.load e x) (v) (g:a.eval x=v) (C)
 (h:∀ w,S w->(Instr.loadAt e v).run P w=.ok (.agg C) w):YieldsIf P d S c (.agg C) a :=
 .inl ⟨k,fun w f=>by
  unfold execOp
  simp only [j,g,yT,zW,yr,h w f]⟩
theorem paz (a T Z C):∃ c,Hid ((a.alloc (.cells Z T)).heap[a.heap.size]? =some (.cells Z T (0,0)))/\Hid ((a.alloc (.cells Z T)).setRow a.heap.size C=c)/\Hid (c.heap[a.heap.size]? =some (.cells C T (0,0)))/\Uq a c:=by
 have h:=xi a (.cells Z T);exact ⟨_,h,rfl,xz _ _ _ _ _ _ h,(uR.alloc _).setRowNew (xj _) _⟩
theorem paw (W c):∃ g a,g=W.heap.size/\a=W.alloc c/\Hid (a.heap[g]? =some c)/\Uq W a:=⟨_,_,rfl,rfl,xi _ _,uR.alloc _⟩
theorem paG (W c):∃ g a,g=W.heap.size/\a=(W.alloc c).drew/\Hid (a.heap[g]? =some c)/\Uq W a:=⟨_,_,rfl,rfl,xi _ _,(uR.alloc _).drew⟩
theorem pc9 (p x b) (c:pab p) (d:x.ok) (f:x.draw.size<=1000000000) (h:verB p (pa1 x) x.r x.s=b) (w) (a:Tabs w):Calls prog 10 #[.int .i64 p,.agg (rcV x).toArray] w (fun e w'=>e=.returned (.bool b)/\Uq w w'):=by
 rw [<-h];exact pi5 p x c d f w a
theorem pdA {x} (h:x.ok) (R) (a:R=(rcV x).toArray):Fi 62 R/\Fo R/\Hid ((Tryz.zeroCells62).size=R.size):=by
 rw [a];refine ⟨rcSz h,rcOne _,?_⟩;show _=_;simp [paM h]
theorem wpList_buildRun {P c rest o a w Q} (g:o.guard=none) (t d parts) (f:o.op=.buildSlice t d parts)
 (v w') (e:(Instr.buildSlice t d (parts.map fun (i,x)=>(i,a.eval x))).run P w=.ok v w')
 (h:wpList P c Q rest (a.put o.dst v) w'):wpList P c Q (o :: rest) a w :=
 wpList_plain g fun _ j=>by
  unfold Oper.wp execOp
  simp only [f,yT,e,yr]
  exact j _ _ h

def EvA (w:World) (g:Nat) (c:UInt8) (r s:Int):Prop:=w.heap[g]? =some (.cells (evV c r s).toArray 71 (0,0))
theorem EvA.upd {w w' g c r s} (h:EvA w g c r s) (u:Uq w w'):EvA w' g c r s:=paa h u
theorem EvA.cell {w g c r s} (h:EvA w g c r s) (j):w.cell? ⟨g,j,none⟩=(evV c r s)[j]?:=by
 rw [xa w g j _ _ _ h,xD]
theorem pst (c r s):(evV c r s)[38]? =some (.int .i64 r):=by
 unfold evV;rw [xC (by simp),xC (by simp [byteVals,zero32])];simp [byteVals,zero32]
theorem psu (c r s):(evV c r s)[39]? =some (.int .i64 s):=by
 unfold evV;rw [xC (by simp),xC (by simp [byteVals,zero32])];simp [byteVals,zero32]
def evS (g:Nat) (c:UInt8) (ZH:Array Value) (w:World):Prop:=w.cell? ⟨g,0,none⟩=some (.int .i64 5)/\w.cell? ⟨g,1,none⟩=some (.int .i64 4)/\w.cell? ⟨g,2,none⟩=some (.int .i64 3)/\w.cell? ⟨g,3,none⟩=some (.int .i64 0)/\w.cell? ⟨g,4,none⟩=some (.int .i64 0)/\w.cell? ⟨g,5,none⟩=some (.string ⟨#[c]⟩)/\(Instr.loadAt 60 (.pointer (some ⟨g,6,none⟩))).run Tryz.prog w=.ok (.agg ZH) w
theorem ph0 {w g c r s E} (d:E=(evV c r s).toArray) (h:EvA w g c r s):(Instr.loadAt 71 (.pointer (some ⟨g,0,none⟩))).run prog w=.ok (.agg E) w:=by
 subst d;refine xL w g 0 71 _ _ (fun j v a=>?_) underlying71 rfl ?_
 · rw [h.cell,yB];exact a
 · rw [pdz];kernel_rfl
theorem poO (n t) (h:Lib.itoa n=bs t) (d:pab n) (w) (a:Tabs w):Calls prog 54 #[.int .i64 n] w (fun e w'=>e=.returned (.string t)/\Uq w w'):=by
 refine (paA n w d a).mono ?_;rintro e w' ⟨y,c,_,rfl,hq⟩;obtain rfl:y=t:=paT (c.out.trans h);exact ⟨rfl,hq⟩
theorem phd (c r s):(prog.info? 71).map (·.size)=some (evV c r s).toArray.size:=by
 rw [show (evV c r s).toArray.size=40 from pdz c r s];kernel_rfl
theorem poP (c r s):(evV c r s).toArray.all (·.oneCell')=true:=by
 rw [yg];intro v a;exact pso c r s v (by simpa using a)
def paY (C:Array Value) (o:Nat):List Value->Array Value
 | []=>C
 | v :: r=>paY (C.setIfInBounds o v) (o+1) r
theorem paP (g t):∀ (V:List Value) (o:Nat) (w:World) (C:Array Value),w.heap[g]? =some (.cells C t (0,0))->(w.setCells g o V).heap[g]? =some (.cells (paY C o V) t (0,0))
 | [],_,_,_,h=>h
 | v :: r,o,w,C,h=>paP g t r (o+1) _ _ (by rw [xg w g o _ _ v h])
theorem pay {w:World} {g o n C t} (h:w.heap[g]? =some (.cells C t (0,0))) (c:o+n<=C.size):w.there g o n:=fun j a=>⟨by
 rw [xa _ _ _ _ _ _ h,yv (by omega)]
 rfl,xp _ _ _ _ _ h⟩
def evZ:List Value:=[.int .i64 0,.int .i64 0,.int .i64 0,.int .i64 0,.int .i64 0,.string ⟨#[]⟩] ++ (byteVals zero32 ++ [.int .i64 0,.int .i64 0])
theorem paH:(zZ0:Array Value)=evZ.toArray:=by kernel_rfl
theorem pcr:evZ.toArray.size=40:=by simp [evZ,byteVals,zero32]
end Go.Proofs.YtkhjolbbpdaplaaGreatDoor
