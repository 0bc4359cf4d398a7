/- sorteslaw33.three and what follows. -/
import Derived.Test.YtkhjolbbpdaplaaGreatDoorHAL
namespace Go.Proofs.YtkhjolbbpdaplaaGreatDoor
set_option maxHeartbeats 4000000
open Go.RowKit Go.Proofs.Tryz
set_option maxRecDepth 100000
abbrev yb:=@List.take_length
abbrev yw:=@decide_eq_false
abbrev yG:=@decide_eq_true
abbrev zt:=@Bool.false_and
abbrev zw:=@List.length_singleton
abbrev zA:=@List.mem_of_mem_take
abbrev uj:=@Nat.eq_zero_or_pos
abbrev un:=@List.append_cancel_left
abbrev uq:=@Bool.true_and
abbrev uw:=@Nat.lt_or_ge
abbrev uI:=@Nat.mul_le_mul_left
abbrev uT:=@List.mem_replicate
abbrev uX:=@List.mem_or_eq_of_mem_set
abbrev vj:=@Nat.min_eq_left
abbrev vk:=@List.getElem?_eq_none
def supV (g:Nat):Array Value:=#[.slice (some ⟨g,0,none⟩) 1 1,.slice none 0 0,.slice none 0 0,.slice none 0 0,.int .i64 0,.int .i64 0]
theorem supInfo (g):(prog.info? 32).map (·.size)=some (supV g).size:=by
 show _=some 6;kernel_rfl
def psw (w:World) (e:Ending) (w':World):Prop :=
 ∃ (x p gM:Nat),Hid (x=keyN three)/\Hid (p=gP x)/\x<1152921504606845789/\p<2305843009213691579/\e=.returned (.tuple #[.agg (supV gM),x])/\Hid (w'.heap[gM]? =some (.cells #[.int .i64 3,.int .i64 1,p] 58 (0,0)))/\Upd [] [] w w'
theorem poS (w) (E:Tabs w):Calls prog 12 #[] w (psw w):=by
 obtain ⟨g,D⟩:=ae (w.heap.size);obtain ⟨O,t⟩:=ae (w.alloc (.cells zZ6 32));have z:=ah (aW D t);have y:=aU t;have q:=ah y;have N:=ah D;clear y;go_in;go_wp2_with fail;refine (psf ⟨#[116,104,114,101,101]⟩ O (by decide) (E.upd q.out)).mono ?_;rintro e v ⟨x,p,n,m,K,M,rfl,hq⟩;rw [show bs ⟨#[116,104,114,101,101]⟩=three from rfl] at n m;have F:Hid (p=gP x):=by show _=_;rw [m.out,n.out]
 have f:=ah (paa z.out hq);have C:=ah (q.out.trans hq);obtain ⟨a,r⟩:=ae (v.heap.size);obtain ⟨k,u⟩:=ae (v.alloc (.cells #[.int .i64 3,.int .i64 1,p] 58));have A:=aW r u;have j:=aU u;have B:=ah (paa f.out j);have R:g<a:=by rw [<-r];exact paf f.out
 obtain ⟨P,c⟩:=ae (k.setRow g (supV a));have o:(k.setRow g (supV a)).heap[g]? =some (.cells (supV a) 32 (0,0)):=xz _ _ _ _ _ _ B.out;have d:(k.setRow g (supV a)).heap[a]? =some (.cells #[.int .i64 3,.int .i64 1,p] 58 (0,0)):=pal A (by omega) _;have h:=(C.out.trans j).setRowNew (show w.heap.size<=g from xJ N.out) (supV a);rw [c] at o d h;have G:=ah c;have Q:=ah o;have J:=ah d;have H:=ah h;clear hq z f C A j c o d h m;go_wp2_with (refine wpList_store_rowAs rfl 32 _ _ rfl g (supV a) rfl rfl _ _ B.out (supInfo a) rfl (by simp [supV,Value.oneCell']) P G.out ?_)
 refine xI (results_row_tmp rfl _ _ g _ (supV a) _ _ rfl Q.out underlying32 rfl (supInfo a)) rfl ⟨x,p,a,n,F,K,M,rfl,J,H.out⟩
theorem pje (c) (n:c≠32) (T) (f:bs T=tOf c) (w) (h:Tabs w):Calls prog 161 #[.string T] w (Mk (.tuple #[.string ⟨#[]⟩,.bool false]) w):=by
 obtain ⟨m,a⟩:=h.m;have j:T.size=84:=by rw [<-pac,f,phY]
 have d:Hid (Calls prog 204 #[.string T,.string ⟨#[32]⟩] w (fun e w'=>∃ g,e=.returned (.slice (some ⟨g,0,none⟩) 8 8)/\Uq w w')):=by
  refine (Tryz.strings_Split T ⟨#[32]⟩ m w (by omega) a (by decide)).mono ?_;rintro e w' ⟨rfl,rfl⟩;rw [poJ n f];exact ⟨_,rfl,uR.alloc _⟩
 clear a j;go_in;go_wp2_with fail;refine d.out.mono ?_;rintro e o ⟨g,rfl,hq⟩;have k:=ah hq;clear hq d;go_wp2;go_ret2;exact ⟨rfl,k.out⟩
theorem pkE (T w):Calls prog 91 #[.string T,.string T] w (Mk (.bool false) w):=by
 go_in;go_wp2;go_ret;exact ⟨rfl,Upd.refl _ _⟩
theorem phg (T U) (m:bs T=tOf 97) (k:bs U=tOf 98) (w) (g:Tabs w):Calls prog 91 #[.string T,.string U] w (Mk (.bool true) w):=by
 obtain ⟨d,a⟩:=az ((evV 97 0 0).toArray);obtain ⟨f,c⟩:=az ((evV 98 0 0).toArray);have S:Fi 71 d:=by rw [a];exact phd _ 0 0
 have ab:Fo d:=by rw [a];exact poP _ 0 0
 have aa:Hid ((zZ0:Array Value).size=d.size):=by show _=_;rw [a,paH,pcr];exact (pdz _ 0 0).symm
 have X:Fi 71 f:=by rw [c];exact phd _ 0 0
 have Y:Fo f:=by rw [c];exact poP _ 0 0
 have Z:Hid ((zZ0:Array Value).size=f.size):=by show _=_;rw [c,paH,pcr];exact (pdz _ 0 0).symm
 have ag:(T.toList == U.toList)=false:=by
  rw [xm,yi,yi];intro e;have O:bs T=bs U:=e;rw [m,k] at O;have:=un O;simp at this
 have B:=ah (pje 97 (by decide) T m w g);have C:=ah (fun W (u:Uq w W)=>pje 98 (by decide) U k W (g.upd u));have o:=ah (fun W (u:Uq w W)=>pjc 97 T m W (g.upd u));have p:=ah (fun W (u:Uq w W)=>pjc 98 U k W (g.upd u));rw [<-a] at o;rw [<-c] at p;have G:d[0]? =some (.int .i64 5):=by rw [a];rfl
 have H:f[0]? =some (.int .i64 5):=by rw [c];rfl
 have r:=ah (xf G H);clear m k a c G H;go_in;go_wp2_with fail;refine B.out.mono ?_;rintro e w1 ⟨rfl,hq⟩;have v:=ah hq;clear hq B;go_wp2_with fail;refine (C.out w1 v.out).mono ?_;rintro e w2 ⟨rfl,hq⟩;have x:=ah (v.out.trans hq);clear hq C v;go_wp2_with fail;refine (o.out w2 x.out).mono ?_;rintro e P ⟨rfl,hq⟩;have E:=ah (x.out.trans hq);clear hq o x;obtain ⟨M,y,z,h,D⟩:=paz P 71 zZ0 d;obtain ⟨j,ac⟩:=ae (P.heap.size);rw [ac] at y z h;have q:=ah (E.out.trans D);have ad:j<M.heap.size:=paf h.out;clear D E;go_wp2_with (refine bS y S aa ab z ?_)
 refine (p.out M q.out).mono ?_;rintro e A ⟨rfl,hq⟩;have J:=ah (paa h.out hq);have F:=ah (q.out.trans hq);have ai:j<A.heap.size:=xA ad hq.size;clear hq p q h y z;obtain ⟨N,R,K,t,n⟩:=paz A 71 zZ0 f;obtain ⟨Q,af⟩:=ae (A.heap.size);rw [af] at R K t;have cA:N.cell? ⟨j,0,none⟩=some (.int .i64 5):=(xa _ j 0 _ _ _ (paa J.out n)).trans r.out.1;have cB:N.cell? ⟨Q,0,none⟩=some (.int .i64 5):=(xa _ Q 0 _ _ _ t.out).trans r.out.2;have U6:=ah (F.out.trans n);clear n F J t r;go_wp2_with (refine bS R X Z Y K ?_)
 go_ret;exact ⟨rfl,U6.out⟩
end Go.Proofs.YtkhjolbbpdaplaaGreatDoor

namespace Go.Proofs.YtkhjolbbpdaplaaGreatDoor
set_option maxHeartbeats 4000000
open Go.Maps Go.Proofs.Tryz
set_option maxRecDepth 100000
def RV (v:Value):Option (DataW Value × List MemPlace):=some (.held v,[])
def MapF (w:World) (b n:Nat) (f:Int->Option Value):Prop :=
 ∃ D:DataW Value,w.ownsMap Tryz.prog 3 RV b n D/\IsMap D/\∀ x:Int,Maps.has D (.int .i64 x)=(f x).isSome/\∀ v,f x=some v->∀ z,D.atKey (.int .i64 x) z=.held v
theorem keyI:Keyed prog 3:=int_keyed underlying3
theorem pkF {x} (a:-9223372036854775808<=x/\x<=9223372036854775807):keyOf prog 3 (.int .i64 x)=some (.int .i64 x):=keyOf_int_mk underlying3 (WalkArith.wf_i64 a)
theorem MapF.made (w:World):MapF (w.alloc (.map #[] 0)) w.heap.size 0 (fun _=>none) :=
 ⟨.map [],World.ownsMap_made _ _ _ _,isMap_empty,fun _=>⟨rfl,fun _ h=>by cases h⟩⟩
theorem MapF.lt {w b n f} (h:MapF w b n f):b<w.heap.size:=by
 obtain ⟨D,a,_⟩:=h;exact a.lt
theorem MapF.upd {w w' S S' b n f} (h:MapF w b n f) (u:Upd S S' w w') (o:b ∉ S):MapF w' b n f:=by
 have c:=h.lt;obtain ⟨D,⟨d,a,m,F,g,k⟩,e,j⟩:=h;exact ⟨D,⟨d,a,(u.block b c o).trans m,F,g,k⟩,e,j⟩
theorem MapF.look_ok {w b n f t e x z} (h:MapF w b n f) (o:prog.underlying t=some (.map 3 e)) (m:(zeroValue e).run prog w=.ok z w) (d:-9223372036854775808<=x/\x<=9223372036854775807) :
 (Instr.lookup t (.map (some b)) (.int .i64 x) true).run prog w=.ok (.tuple #[(f x).getD z,.bool (f x).isSome]) w:=by
 obtain ⟨D,k,_,j⟩:=h;obtain ⟨v,ps,c,a⟩:=k.look_ok keyI o m (zd:=.held z) (zp:=[]) rfl (pkF d);obtain ⟨h1,g⟩:=j x;rw [c,h1];unfold RV at a
 cases hfx:f x with
 | none =>
  rw [hfx] at h1;rw [atKey_of_not_has h1] at a
  cases a
  rfl
 | some y =>
  rw [g y hfx] at a
  cases a
  rfl
theorem MapF.look {w b n f t e x z} (h:MapF w b n f) (o:prog.underlying t=some (.map 3 e)) (m:(zeroValue e).run prog w=.ok z w) (d:-9223372036854775808<=x/\x<=9223372036854775807) :
 (Instr.lookup t (.map (some b)) (.int .i64 x) false).run prog w=.ok ((f x).getD z) w:=by
 obtain ⟨D,k,_,j⟩:=h;obtain ⟨v,ps,c,a⟩:=k.lookup keyI o m (zd:=.held z) (zp:=[]) rfl (pkF d);obtain ⟨h1,g⟩:=j x;rw [c];unfold RV at a
 cases hfx:f x with
 | none =>
  rw [hfx] at h1;rw [atKey_of_not_has h1] at a
  cases a
  rfl
 | some y =>
  rw [g y hfx] at a
  cases a
  rfl
theorem MapF.put {w b n f t e x v} (h:MapF w b n f) (E:prog.underlying t=some (.map 3 e)) (B:n<maxLen) (A:-9223372036854775808<=x/\x<=9223372036854775807) :
 ∃ w',(Instr.mapUpdate t (.map (some b)) (.int .i64 x) v).run prog w=.ok () w'/\MapF w' b (n+1) (fun y=>if y=x then some v else f y)/\Upd [b] [b] w w':=by
 obtain ⟨D,C,m,q⟩:=h;obtain ⟨w',r,u,a⟩:=C.update keyI E B (d:=.held v) (ps:=[]) (pkF A) rfl;refine ⟨w',r,⟨_,u,m.put _ _,fun y=>?_⟩,⟨a.os,a.tape,a.output,a.size,fun k o c=>a.block k o (fun e=>c (by cases e;exact List.mem_cons_self)),fun k o=>.inl o⟩⟩;show has _ _=(if y=x then some v else f y).isSome/\∀ g,(if y=x then some v else f y)=some g->_;by_cases p:y=x
 · subst p;rw [xH rfl];exact ⟨has_put_same (k:=.int .i64 y) m trivial _,fun g j z=>by cases j;exact atKey_put_same (k:=.int .i64 y) m trivial _ _⟩
 · rw [yy p];have c:(Lit.int .i64 y)≠Lit.int .i64 x:=fun e=>p (by cases e;rfl);exact ⟨(has_put_other c _).trans (q y).1,fun g j z=>(atKey_put_other c _ _).trans ((q y).2 g j z)⟩
theorem wpList_put_F (w) {d rest o a Q}
 (D:o.guard=none) (m x v t) (k:o.op=Op.mapUpdate t m x v) (e) (z:prog.underlying t=some (.map 3 e)) (b n f)
 (A:a.eval m=.map (some b)) (h:MapF w b n f) (E:n<maxLen) (key c) (p:a.eval x=.int .i64 key) (C:a.eval v=c) (r:-9223372036854775808<=key/\key<=9223372036854775807)
 (u:∀ w',MapF w' b (n+1) (fun y=>if y=key then some c else f y)->Upd [b] [b] w w'->wpList prog d Q rest (a.put o.dst undef) w') :
 wpList prog d Q (o :: rest) a w:=by
 refine wpList_plain D fun F j=>?_;obtain ⟨w',g,q,B⟩:=h.put (x:=key) (v:=c) z E r;unfold Oper.wp;simp [execOp,k,A,p,C,g,Result.andThen];exact j _ _ (u w' q B)
end Go.Proofs.YtkhjolbbpdaplaaGreatDoor

namespace Go.Proofs.YtkhjolbbpdaplaaGreatDoor
set_option maxHeartbeats 4000000
open Go.RowKit Go.Proofs.Tryz
set_option maxRecDepth 100000
theorem wpList_ins_F (w) {d rest o a Q}
 (D:o.guard=none) (m x v t) (k:o.op=Op.insert t m x v) (e) (z:prog.underlying t=some (.map 3 e)) (b n f)
 (A:a.eval m=.map (some b)) (h:MapF w b n f) (E:n<maxLen) (key c) (p:a.eval x=.int .i64 key) (C:a.eval v=c) (r:-9223372036854775808<=key/\key<=9223372036854775807)
 (u:∀ w',MapF w' b (n+1) (fun y=>if y=key then some c else f y)->Upd [b] [b] w w'->wpList prog d Q rest (a.put o.dst undef) w') :
 wpList prog d Q (o :: rest) a w:=by
 refine wpList_plain D fun F j=>?_;obtain ⟨w',g,q,B⟩:=h.put (x:=key) (v:=c) z E r;unfold Oper.wp;simp [execOp,k,A,p,C,g,Result.andThen];exact j _ _ (u w' q B)
theorem Upd.ownAtN {B a b c} (h:Uq a b) (k:Upd [B] [B] b c) (f:a.heap.size<=B):Uq a c :=
 ⟨k.os.trans h.os,k.tape.trans h.tape,k.output.trans h.output,xB h.size k.size,fun i d _=>(k.block i (xA d h.size) (by simp;omega)).trans (h.block i d (by simp)),fun _ e=>absurd e (by simp)⟩
def fnV (n:Nat):Value:=.func (.func n) #[] #[]
def crtV (k:Bool) (f g p:Nat):Value:=.agg #[.bool k,fnV f,fnV g,fnV p]
def crtF (y:Int):Option Value :=
 if y=7 then some (crtV true 100 101 103) else
 if y=6 then some (crtV true 100 101 102) else
 if y=5 then some (crtV false 98 87 99) else
 if y=4 then some (crtV false 96 89 97) else
 if y=3 then some (crtV false 94 87 95) else
 if y=2 then some (crtV false 92 87 93) else
 if y=1 then some (crtV false 86 89 90) else none
theorem undC:prog.underlying 100=some (.map 3 98):=by kernel_rfl
theorem ph2 (w):(zeroValue 98).run prog w=.ok (.agg #[.bool false,.nilFunc,.nilFunc,.nilFunc]) w:=by kernel_rfl
theorem pci (w):Calls prog 35 #[] w (fun e w'=>∃ b,e=.returned (.map (some b))/\Hid (MapF w' b 7 crtF)/\Uq w w'):=by
 have m:=MapF.made w;have a:Uq w (w.alloc (.map #[] 0)):=uR.alloc _;have c:=ah a;have D:=@run_makeMap prog;clear a;go_in;go_upto_region 4 with (fail)
 go_wp2_with (first | (refine wpList_ins_F _ rfl _ _ _ 100 rfl _ undC w.heap.size 0 _ rfl m (by unfold maxLen;omega) _ _ rfl rfl (by omega) ?_;intro x u p) | (refine wpList_ins_F _ rfl _ _ _ 100 rfl _ undC w.heap.size 1 _ rfl u (by unfold maxLen;omega) _ _ rfl rfl (by omega) ?_;intro B q g) | (refine wpList_ins_F _ rfl _ _ _ 100 rfl _ undC w.heap.size 2 _ rfl q (by unfold maxLen;omega) _ _ rfl rfl (by omega) ?_;intro A r h) | (refine wpList_ins_F _ rfl _ _ _ 100 rfl _ undC w.heap.size 3 _ rfl r (by unfold maxLen;omega) _ _ rfl rfl (by omega) ?_;intro y v t) | (refine wpList_ins_F _ rfl _ _ _ 100 rfl _ undC w.heap.size 4 _ rfl v (by unfold maxLen;omega) _ _ rfl rfl (by omega) ?_;intro E f o) | (refine wpList_ins_F _ rfl _ _ _ 100 rfl _ undC w.heap.size 5 _ rfl f (by unfold maxLen;omega) _ _ rfl rfl (by omega) ?_;intro z k n) | (refine wpList_ins_F _ rfl _ _ _ 100 rfl _ undC w.heap.size 6 _ rfl k (by unfold maxLen;omega) _ _ rfl rfl (by omega) ?_;intro C j d))
 go_ret;refine ⟨_,rfl,?_,?_⟩
 · exact j
 · exact ((((((c.out.ownAtN p (xj _)).ownAtN g (xj _)).ownAtN h (xj _)).ownAtN t (xj _)).ownAtN o (xj _)).ownAtN n (xj _)).ownAtN d (xj _)
def evdL (kind who aw:Int) (aT:ByteArray) (ar as' bw:Int) (bT:ByteArray) (br bs' low high:Int) (F A B:ByteArray):List Value :=
 [.int .i64 kind,.int .i64 who,.int .i64 aw,.string aT,.int .i64 ar,.int .i64 as',.int .i64 bw,.string bT,.int .i64 br,.int .i64 bs',.int .i64 low,.int .i64 high,.string F,.string A,.string B,.int .i64 0,.int .i64 0,.int .i64 0,.int .i64 0]
def mtL (m1 m2 m3 m4:Value) (kind who aw:Int) (aT:ByteArray) (ar as' bw:Int) (bT:ByteArray) (br bs' low high:Int) (F A B:ByteArray) (id wt pub:Int):List Value :=
 [m1,m2,m3,m4,.int .i64 0,.int .i64 0,.int .i64 kind,.int .i64 who,.int .i64 aw,.string aT,.int .i64 ar,.int .i64 as',.int .i64 bw,.string bT,.int .i64 br,.int .i64 bs',.int .i64 low,.int .i64 high,.string F,.string A,.string B,.int .i64 0,.int .i64 0,.int .i64 0,.int .i64 0,.int .i64 0,.int .i64 id,.int .i64 wt,.int .i64 pub]
structure MtIs (M:Array Value) (aw:Int) (aT:ByteArray) (ar as' bw:Int) (bT:ByteArray) (br bs' low high:Int) (F A B:ByteArray) (id pub:Int):Prop where
 sz:M.size=29
 a0:M[8]? =some (.int .i64 aw)
 a1:M[9]? =some (.string aT)
 a2:M[10]? =some (.int .i64 ar)
 a3:M[11]? =some (.int .i64 as')
 b0:M[12]? =some (.int .i64 bw)
 b1:M[13]? =some (.string bT)
 b2:M[14]? =some (.int .i64 br)
 b3:M[15]? =some (.int .i64 bs')
 d0:M[16]? =some (.int .i64 low)
 d1:M[17]? =some (.int .i64 high)
 d2:M[18]? =some (.string F)
 d3:M[19]? =some (.string A)
 d4:M[20]? =some (.string B)
 i:M[26]? =some (.int .i64 id)
 p:M[28]? =some (.int .i64 pub)
theorem MtIs.of (t v r u o p h j k e g m n c f a F A B id q d) :
 MtIs (mtL t v r u o p h j k e g m n c f a F A B id q d).toArray h j k e g m n c f a F A B id d :=
 ⟨rfl,rfl,rfl,rfl,rfl,rfl,rfl,rfl,rfl,rfl,rfl,rfl,rfl,rfl,rfl,rfl⟩
theorem pes {M:Array Value} (h:M.size=29):(prog.info? 105).map (·.size)=some M.size:=by
 rw [h];kernel_rfl
section
variable {M : Array Value} {aw ar as' bw br bs' low high id pub : Int} {aT bT F A B : ByteArray}
theorem peT (h:MtIs M aw aT ar as' bw bT br bs' low high F A B id pub) (a f d c) (v:pab pub) (D:pab f) (y:pab d) (z:c.size<=140737488355000) (w) (H:Tabs w) :
 Calls prog 88 #[.agg M,.agg #[.int .i64 a,.string c,.int .i64 f,.int .i64 d]] w (MkB (decide (a=id) && verB pub (bs c) f d) w):=by
 obtain ⟨g,O⟩:=ae (w.heap.size);obtain ⟨E,t⟩:=ae (w.alloc (.cells M 105));have C:=aW O t;have x:=aU t;obtain ⟨m,J⟩:=ae (E.heap.size);obtain ⟨K,u⟩:=ae (E.alloc (.cells #[a,.string c,f,d] 41));have k:=aW J u;have r:=aU u;have o:=ah (x.trans r);have n:=paa C r;have R:=(xa _ g 26 _ _ _ n).trans h.i;have T:=(xa _ g 28 _ _ _ n).trans h.p;have W:=(xa _ m 0 _ _ _ k).trans (show _=some (Value.int .i64 a) from rfl);have X:=(xa _ m 1 _ _ _ k).trans (show _=some (Value.string c) from rfl);have Y:=(xa _ m 2 _ _ _ k).trans (show _=some (Value.int .i64 f) from rfl);have U:=(xa _ m 3 _ _ _ k).trans (show _=some (Value.int .i64 d) from rfl);have G:=ah (pdM pub c f d K v D y z (H.upd o.out));clear h C x k r n v D y z;by_cases j:a=id
 · have N:(a == id)=true:=by rw [yW];exact j
   have q:Hid (decide (a=id)=true):=yG j;clear j;go_in;go_wp2_with fail;refine G.out.mono ?_;rintro e S ⟨b,P,rfl,hq⟩;have Q:=ah (o.out.trans hq);clear hq G;go_wp2;go_ret;exact ⟨b,by show _=_;rw [P.out,q.out,uq],rfl,Q.out⟩
 · have N:(a == id)=false:=by rw [xm];exact j
   have q:Hid (decide (a=id)=false):=yw j;go_in;go_wp2;go_ret;exact ⟨false,by show _=_;rw [q.out,zt],rfl,o.out⟩
theorem pfJ (w):Calls prog 86 #[.agg M] w (Mk (.bool true) w):=by
 go_in;go_wp2;go_ret;exact ⟨rfl,uR.alloc _⟩
theorem pkG (h:MtIs M aw aT ar as' bw bT br bs' low high F A B id pub) (k:pab pub) (m:pab ar) (o:pab as') (u:aT.size<=140737488355000) (w) (j:Tabs w) :
 Calls prog 87 #[.agg M] w (MkB (decide (aw=id) && verB pub (bs aT) ar as') w):=by
 obtain ⟨g,q⟩:=ae (w.heap.size);obtain ⟨n,c⟩:=ae (w.alloc (.cells M 105));have a:=ah (aW q c);have d:=ah (aU c);have C:=(xa _ g 8 _ _ _ a.out).trans h.a0;have x:=(xa _ g 9 _ _ _ a.out).trans h.a1;have y:=(xa _ g 10 _ _ _ a.out).trans h.a2;have z:=(xa _ g 11 _ _ _ a.out).trans h.a3;have f:=ah (peT h aw ar as' aT k m o u n (j.upd d.out));have t:=ah (pes h.sz);clear h;go_in;go_wp2_with (refine bL a underlying105 t ?_)
 refine f.out.mono ?_;rintro e v ⟨b,r,rfl,hq⟩;have p:=ah (d.out.trans hq);clear hq f;go_wp2;go_ret;exact ⟨b,r,rfl,p.out⟩
end
theorem phh {α:Type} {l:List α} {k} {d:α} (h:l[k]? =some d):l.take (k+1)=l.take k ++ [d]:=by
 rw [xN,h];rfl
def valW:List Nat->Nat
 | []=>0
 | d :: r=>d+4294967296 * valW r
def okW (l:List Nat):Prop:=∀ d∈l,d<4294967296
def dw (n:Nat):List Nat:=if n=0 then [] else n % 4294967296 :: dw (n / 4294967296)
termination_by n
decreasing_by omega
theorem pbf:dw 0=[]:=by rw [dw];rfl
theorem pet {n} (h:0<n):dw n=n % 4294967296 :: dw (n / 4294967296):=by rw [dw,yy (by omega)]
theorem pkH (n):valW (dw n)=n:=by
 induction n using Nat.strongRecOn with
 | ind n ih =>
  by_cases h:n=0
  · subst h;rw [pbf];rfl
  · rw [pet (by omega),valW,ih (n / 4294967296) (by omega)];omega
theorem psx (n):okW (dw n):=by
 induction n using Nat.strongRecOn with
 | ind n ih =>
  by_cases h:n=0
  · subst h;rw [pbf];intro d hd;simp at hd
  · rw [pet (by omega)];intro d hd;rcases yo.1 hd with rfl | hd
    · omega
    · exact ih (n / 4294967296) (by omega) d hd
theorem pgj:∀ a b,valW (a ++ b)=valW a+4294967296 ^ a.length * valW b
 | [],b=>by simp [valW]
 | d :: r,b=>by
  simp only [yA,valW,pgj r b,xF,x8]
  rw [yQ,ud,<-yZ,yk (4294967296 ^ r.length) 4294967296]
theorem poT (a d):valW (a ++ [d])=valW a+4294967296 ^ a.length * d:=by rw [pgj];simp [valW]
theorem pkI:okW []:=fun d a=>by simp at a
theorem pq5 {l} (h:okW l) (k):okW (l.take k):=fun d a=>h d (zA a)
theorem poU:∀ {l:List Nat},okW l->valW l<4294967296 ^ l.length
 | [],_=>by simp [valW]
 | d :: r,h=>by
  have h1:=h d (by simp)
  have c:=poU (l:=r) (fun x a=>h x (by simp [a]))
  simp only [valW,xF,x8]
  omega
theorem phi:∀ {c:List Nat},okW c->(∀ d,c.getLast? =some d->d≠0)->c=dw (valW c)
 | [],_,_=>by rw [valW,pbf]
 | d :: r,h,hl=>by
  have g:=h d (by simp)
  cases r with
  | nil =>
   have:d≠0:=hl d (by simp)
   simp only [valW,vi,zY]
   rw [pet (by omega),show d % 4294967296=d by omega,show d / 4294967296=0 by omega,pbf]
  | cons e r =>
   have f:=phi (c:=e :: r) (fun x a=>h x (by simp [List.mem_cons.1 a])) (fun x a=>hl x (by simpa using a))
   have j:0<valW (e :: r):=by
    rcases uj (valW (e :: r)) with h0 | h0
    · rw [h0,pbf] at f;cases f
    · exact h0
   rw [valW,pet (by omega),show (d+4294967296 * valW (e :: r)) % 4294967296=d by omega,show (d+4294967296 * valW (e :: r)) / 4294967296=valW (e :: r) by omega,<-f]
theorem pgT {l:List Nat} {k d} (h:l[k]? =some d):valW (l.drop k)=d+4294967296 * valW (l.drop (k+1)):=by
 obtain ⟨a,rfl⟩:=xe.1 h;rw [xZ a,valW]
end Go.Proofs.YtkhjolbbpdaplaaGreatDoor

namespace Go.Proofs.YtkhjolbbpdaplaaGreatDoor
set_option maxHeartbeats 4000000
set_option maxRecDepth 100000
theorem ph3 {α:Type} {p:List α->Prop} (h0:p []) (h1:∀ l b,p l->p (l ++ [b])) (l):p l:=by
 rw [<-List.reverse_reverse l]
 induction l.reverse with
 | nil=>exact h0
 | cons a r ih=>rw [List.reverse_cons];exact h1 _ _ ih
def natB (l:List UInt8):Nat:=l.foldl (fun a b=>a * 256+b.toNat) 0
theorem ph4:natB []=0:=rfl
theorem pbz (l b):natB (l ++ [b])=natB l * 256+b.toNat:=by simp [natB]
theorem pef (a):∀ b,natB (a ++ b)=natB a * 256 ^ b.length+natB b:=by
 intro b
 induction b using ph3 with
 | h0=>simp [ph4]
 | h1 l b ih =>
  rw [<-xG,pbz,ih,pbz,xr,zw,x8,uu,yZ,ud]
theorem pgk (a r):natB (a :: r)=a.toNat * 256 ^ r.length+natB r:=by
 have:=pef [a] r;simpa [natB] using this
theorem pjf (l k):natB (l.take k)<=natB l:=by
 have h:=pef (l.take k) (l.drop k);rw [zK] at h;have h1:natB (l.take k) * 1<=natB (l.take k) * 256 ^ (l.drop k).length:=uI _ (Nat.pow_pos (by omega));omega
theorem peU (l):natB l<256 ^ l.length:=by
 induction l using ph3 with
 | h0=>simp [ph4]
 | h1 l b ih =>
  have:=b.toNat_lt;rw [pbz,xr,zw,x8];omega
def be (n:Nat):List UInt8:=if n=0 then [] else be (n / 256) ++ [UInt8.ofNat (n % 256)]
termination_by n
decreasing_by omega
theorem pa3:be 0=[]:=by rw [be];rfl
theorem pgl {n} (h:0<n):be n=be (n / 256) ++ [UInt8.ofNat (n % 256)]:=by rw [be,yy (by omega)]
theorem poV (x b) (h:0<x * 256+b.toNat):be (x * 256+b.toNat)=be x ++ [b]:=by
 have a:=b.toNat_lt;rw [pgl h,show (x * 256+b.toNat) / 256=x by omega,show (x * 256+b.toNat) % 256=b.toNat by omega,UInt8.ofNat_toNat]
theorem paK (n):natB (be n)=n:=by
 induction n using Nat.strongRecOn with
 | ind n ih =>
  by_cases h:n=0
  · subst h;rw [pa3];rfl
  · rw [pgl (by omega),pbz,ih (n / 256) (by omega),yn];omega
theorem ptH {m n} (h:be m=be n):m=n:=by rw [<-paK m,h,paK]
theorem poW (n):n<256 ^ (be n).length:=by
 have:=peU (be n)
 rwa [paK] at this
theorem paJ:∀ k n,n<256 ^ k->(be n).length<=k
 | 0,n,h=>by
  have:n=0:=by simpa using h
  subst this;rw [pa3];simp
 | k+1,n,h=>by
  by_cases h0:n=0
  · subst h0;rw [pa3];simp
  · rw [pgl (by omega),xr,zw]
    have:=paJ k (n / 256) (by rw [x8] at h;omega)
    omega
theorem pjg {n} (h:0<n):0<(be n).length:=by
 rw [pgl h];simp
theorem pda {n k} (h:(be n).length<=k):n<256 ^ k:=xA (poW n) (zm (by omega) h)
def pcd (l:List UInt8):List UInt8:=l.dropWhile (· == 0)
theorem peu (l):pcd l=be (natB l):=by
 induction l using ph3 with
 | h0=>rw [ph4,pa3];rfl
 | h1 l b ih =>
  rw [pcd,List.dropWhile_append,pbz];have d:List.dropWhile (· == 0) l=be (natB l):=ih;rw [d];by_cases h0:natB l=0
  · rw [h0,pa3];simp only [List.isEmpty_nil,if_true];by_cases a:b=0
    · subst a;rw [show 0 * 256+(0:UInt8).toNat=0 from rfl,pa3];rfl
    · have e:0<b.toNat:=by
       rcases uj b.toNat with h | h
       · exact absurd (zQ.1 h) a
       · exact h
      rw [poV 0 b (by omega),pa3];have:(b == 0)=false:=by rw [xm];exact a
      simp [List.dropWhile,this]
  · have c:(be (natB l)).isEmpty=false:=by
     have:=pjg (n:=natB l) (by omega)
     cases hh:be (natB l) with
     | nil=>rw [hh] at this;simp at this
     | cons=>rfl
    rw [c,poV _ _ (by omega)];rfl
theorem phj {l:List UInt8} {k} (h:l[k]? =some 0):pcd (l.drop k)=pcd (l.drop (k+1)):=by
 obtain ⟨c,a⟩:=xe.1 h;rw [xZ c,a,pcd,List.dropWhile_cons];simp [pcd]
theorem phk {l:List UInt8} {k b} (h:l[k]? =some b) (c:b≠0):pcd (l.drop k)=l.drop k:=by
 obtain ⟨d,a⟩:=xe.1 h;rw [xZ d,a,pcd,List.dropWhile_cons];have:(b == 0)=false:=by rw [xm];exact c
 simp [this]
theorem poX (n) (h:n<18446744073709551616):natB (len8 n)=n:=by
 have e:len8 n=[UInt8.ofNat (n / 2 ^ 56),UInt8.ofNat (n / 2 ^ 48),UInt8.ofNat (n / 2 ^ 40),UInt8.ofNat (n / 2 ^ 32),UInt8.ofNat (n / 2 ^ 24),UInt8.ofNat (n / 2 ^ 16),UInt8.ofNat (n / 2 ^ 8),UInt8.ofNat (n / 2 ^ 0)]:=rfl;rw [e];simp only [natB,List.foldl_cons,List.foldl_nil,yn];omega
theorem poY (x):be (x / 256)=(be x).take ((be x).length - 1):=by
 by_cases h:x=0
 · subst h;rw [show 0 / 256=0 from rfl,pa3];rfl
 · rw [pgl (n:=x) (by omega)];simp
theorem pkJ (x):be (x / 16777216)=(be x).take ((be x).length - 3):=by
 have e:x / 16777216=x / 256 / 256 / 256:=by omega
 rw [e,poY (x / 256 / 256),poY (x / 256),poY x];simp only [xQ,List.take_take];congr 1;omega
theorem psy (x):natB ((be x).drop ((be x).length - 3))=x % 16777216:=by
 have h:=pef ((be x).take ((be x).length - 3)) ((be x).drop ((be x).length - 3));rw [zK,paK,<-pkJ,paK,zJ] at h;by_cases c:3<=(be x).length
 · rw [show (be x).length - ((be x).length - 3)=3 by omega,show (256:Nat) ^ 3=16777216 from rfl] at h;omega
 · have a:x<16777216:=by
    have:=pda (n:=x) (k:=3) (by omega);simpa using this
   rw [show (be x).length - 3=0 by omega,zN,paK];omega
def valL:List Nat->Nat
 | []=>0
 | d :: r=>d+16777216 * valL r
def okL (l:List Nat):Prop:=∀ d∈l,d<16777216
def dg (n:Nat):List Nat:=if n=0 then [] else n % 16777216 :: dg (n / 16777216)
termination_by n
decreasing_by omega
theorem pdb:dg 0=[]:=by rw [dg];rfl
theorem phl {n} (h:0<n):dg n=n % 16777216 :: dg (n / 16777216):=by rw [dg,yy (by omega)]
theorem pbl (n):valL (dg n)=n:=by
 induction n using Nat.strongRecOn with
 | ind n ih =>
  by_cases h:n=0
  · subst h;rw [pdb];rfl
  · rw [phl (by omega),valL,ih (n / 16777216) (by omega)];omega
theorem peV (n):okL (dg n):=by
 induction n using Nat.strongRecOn with
 | ind n ih =>
  by_cases h:n=0
  · subst h;rw [pdb];intro d hd;simp at hd
  · rw [phl (by omega)];intro d hd;rcases yo.1 hd with rfl | hd
    · omega
    · exact ih (n / 16777216) (by omega) d hd
theorem pdc:∀ a b,valL (a ++ b)=valL a+16777216 ^ a.length * valL b
 | [],b=>by simp [valL]
 | d :: r,b=>by
  simp only [yA,valL,pdc r b,xF,x8]
  rw [yQ,ud,<-yZ,yk (16777216 ^ r.length) 16777216]
theorem pcS (a d):valL (a ++ [d])=valL a+16777216 ^ a.length * d:=by rw [pdc];simp [valL]
theorem pgm:okL []:=fun d a=>by simp at a
theorem okL_snoc {l d} (h:okL l) (a:d<16777216):okL (l ++ [d]):=by
 intro x hx;rcases yq.1 hx with hx | hx
 · exact h x hx
 · rw [zl] at hx;omega
theorem plZ {l} (h:okL l) (k):okL (l.take k):=fun d a=>h d (zA a)
theorem ph5:∀ {l:List Nat},okL l->valL l<16777216 ^ l.length
 | [],_=>by simp [valL]
 | d :: r,h=>by
  have h1:=h d (by simp)
  have c:=ph5 (l:=r) (fun x a=>h x (by simp [a]))
  simp only [valL,xF,x8]
  omega
theorem phm:∀ {c:List Nat},okL c->(∀ d,c.getLast? =some d->d≠0)->c=dg (valL c)
 | [],_,_=>by rw [valL,pdb]
 | d :: r,h,hl=>by
  have g:=h d (by simp)
  cases r with
  | nil =>
   have:d≠0:=hl d (by simp)
   simp only [valL,vi,zY]
   rw [phl (by omega),show d % 16777216=d by omega,show d / 16777216=0 by omega,pdb]
  | cons e r =>
   have f:=phm (c:=e :: r) (fun x a=>h x (by simp [List.mem_cons.1 a])) (fun x a=>hl x (by simpa using a))
   have j:0<valL (e :: r):=by
    rcases uj (valL (e :: r)) with h0 | h0
    · rw [h0,pdb] at f;cases f
    · exact h0
   rw [valL,phl (by omega),show (d+16777216 * valL (e :: r)) % 16777216=d by omega,show (d+16777216 * valL (e :: r)) / 16777216=valL (e :: r) by omega,<-f]
theorem pev:∀ k n,n<16777216 ^ k->(dg n).length<=k
 | 0,n,h=>by
  have:n=0:=by simpa using h
  subst this;rw [pdb];simp
 | k+1,n,h=>by
  by_cases h0:n=0
  · subst h0;rw [pdb];simp
  · rw [phl (by omega),xF]
    have:=pev k (n / 16777216) (by rw [x8] at h;omega)
    omega
theorem ptI (n):n<16777216 ^ (dg n).length:=by
 have:=ph5 (peV n)
 rwa [pbl] at this
theorem pgn {x y} (h:(dg x).length<(dg y).length):x<y:=by
 rcases uw x y with h1 | h1
 · exact h1
 · have:=pev (dg x).length y (ui h1 (ptI x));omega
theorem poZ {u v k a b} (o:okL u) (h:u.drop (k+1)=v.drop (k+1)) (j:u[k]? =some a) (n:v[k]? =some b) (p:a<b):valL u<valL v:=by
 obtain ⟨e,rfl⟩:=xe.1 j;obtain ⟨g,rfl⟩:=xe.1 n;have c:=pdc (u.take k) (u.drop k);have d:=pdc (v.take k) (v.drop k);rw [zK,xZ e,valL] at c;rw [zK,xZ g,valL,<-h] at d;rw [xQ,vj (by omega)] at c d;have f:=ph5 (plZ o k);rw [xQ,vj (by omega)] at f;generalize 16777216 ^ k=m at *;generalize 16777216 * valL (u.drop (k+1))=z at *;have q:m * (u[k]+z)+m<=m * (v[k]+z):=by
  rw [<-Nat.mul_succ];exact uI _ (by omega)
 omega
theorem pb1 {l:List Nat} {k d} (h:l[k]? =some d):valL (l.drop k)=d+16777216 * valL (l.drop (k+1)):=by
 obtain ⟨a,rfl⟩:=xe.1 h;rw [xZ a,valL]
theorem pew {α:Type} {l:List α} {k} {d:α} (h:l[k]? =some d):l.take (k+1)=l.take k ++ [d]:=by
 rw [xN,h];rfl
theorem pb2 {l:List Nat} {k d} (h:l[k]? =some d):valL (l.take (k+1))=valL (l.take k)+16777216 ^ k * d:=by
 have a:=(xe.1 h).1;rw [pew h,pcS,xQ,vj (by omega)]
theorem pm4 {u out:List Nat} {k x d c} (a:u[k]? =some x) (e:out.length=k) (h:valL out+16777216 ^ k * c=valL (u.take k) * d) :
 valL (out ++ [(x * d+c) % 16777216])+16777216 ^ (k+1) * ((x * d+c) / 16777216)=valL (u.take (k+1)) * d:=by
 rw [pcS,e,pb2 a,uu,<-h,x8,yZ (16777216 ^ k) 16777216,ud,<-yQ,yZ (16777216 ^ k) x d,ud,<-yQ];congr 2;omega
theorem pkK {x d c} (a:x<16777216) (f:d<16777216) (e:c<16777216):(x * d+c) / 16777216<16777216/\x * d+c<281474976710656:=by
 have h:x * d<=16777215 * 16777215:=zC (by omega) (by omega);omega
theorem pdR {u v out:List Nat} {k x r b b'} (c:u[k]? =some x) (d:out.length=k) (h:valL out+valL (v.take k)=valL (u.take k)+16777216 ^ k * b) (f:x+16777216 * b'=r+b+v.getD k 0) :
 valL (out ++ [r])+valL (v.take (k+1))=valL (u.take (k+1))+16777216 ^ (k+1) * b':=by
 have j:valL (v.take (k+1))=valL (v.take k)+16777216 ^ k * v.getD k 0:=by
  by_cases g:k<v.length
  · have a:v[k]? =some v[k]:=xd g;rw [pb2 a,xx,a];rfl
  · rw [xy (by omega),xy (by omega),xx,vk (by omega)];simp
 have e:16777216 ^ k * (x+16777216 * b')=16777216 ^ k * (r+b+v.getD k 0):=by rw [f]
 rw [yQ,yQ,yQ,<-yZ] at e;rw [pcS,d,pb2 c,j,x8];omega
theorem po0 {u v out b} (d:out.length=u.length) (c:okL out) (a:v.length<=u.length) (e:valL v<=valL u) (h:valL out+valL (v.take u.length)=valL (u.take u.length)+16777216 ^ u.length * b):valL out=valL u - valL v:=by
 rw [xy a,yb] at h;have h1:=ph5 c;rw [d] at h1
 cases b with
 | zero=>omega
 | succ b=>rw [Nat.mul_succ] at h;omega
theorem pdd {x y} (h:y<=x):(dg y).length<=(dg x).length:=by
 rcases uw (dg x).length (dg y).length with h1 | h1
 · have:=pgn h1;omega
 · exact h1
theorem pm5 (l d) (h:d<16777216):natB (l ++ [UInt8.ofNat (d / 65536),UInt8.ofNat (d / 256),UInt8.ofNat d])=natB l * 16777216+d:=by
 have e:l ++ [UInt8.ofNat (d / 65536),UInt8.ofNat (d / 256),UInt8.ofNat d]=((l ++ [UInt8.ofNat (d / 65536)]) ++ [UInt8.ofNat (d / 256)]) ++ [UInt8.ofNat d]:=by simp
 rw [e,pbz,pbz,pbz];simp only [yn];omega
theorem pl0 {X q Q y r x} (h:X=Q * y+r) (hq:q=(x+16777216 * r) / y):x+16777216 * X=(q+16777216 * Q) * y+(x+16777216 * r) % y:=by
 have:=zR (x+16777216 * r) y;rw [<-hq] at this;rw [h,uu,yZ,yQ,yk q y];omega
theorem pjh {y r x} (c:r<y) (a:x<16777216):(x+16777216 * r) / y<16777216:=by
 rw [Nat.div_lt_iff_lt_mul (by omega)];have:16777216 * (r+1)<=16777216 * y:=uI _ (by omega);rw [yk 16777216 y] at this;omega
theorem po1 {u y m} (_hy:0<y) (h:y * m<=u):m<=u / y:=(Nat.le_div_iff_mul_le _hy).2 (by rw [yk];exact h)
theorem pm6 {u y m} (_hy:0<y) (h:u<y * m):u / y<m:=(Nat.div_lt_iff_lt_mul _hy).2 (by rw [yk];exact h)
end Go.Proofs.YtkhjolbbpdaplaaGreatDoor

namespace Go.Proofs.YtkhjolbbpdaplaaGreatDoor
set_option maxHeartbeats 4000000
open Go.RowKit Go.Proofs.Tryz
set_option maxRecDepth 100000
theorem pl1:∀ l q d e,l[q]? =some d->valW (l.set q (d+e))=valW l+4294967296 ^ q * e
 | [],q,d,e,h=>by simp at h
 | d' :: r,0,d,e,h=>by
  simp only [yh,yz] at h
  subst h
  simp only [xX,valW,vh]
  omega
 | d' :: r,q+1,d,e,h=>by
  rw [yc] at h
  simp only [yE,valW,pl1 r q d e h,x8]
  rw [yQ,yZ,Nat.mul_left_comm,ud]
theorem po2:∀ l q d,l[q]? =some d->4294967296 ^ q * d<=valW l
 | [],q,d,h=>by simp at h
 | d' :: r,0,d,h=>by
  simp only [yh,yz] at h
  subst h
  simp only [valW,vh]
  omega
 | d' :: r,q+1,d,h=>by
  rw [yc] at h
  have a:=po2 r q d h
  simp only [valW,x8]
  rw [yZ,Nat.mul_left_comm]
  have:=uI 4294967296 a
  omega
theorem okW_set {l} (h:okW l) {k x} (c:x<4294967296):okW (l.set k x):=by
 intro d a;rcases uX a with k | k
 · exact h d k
 · omega
theorem phn:∀ k,valW (List.replicate k 0)=0
 | 0=>rfl
 | k+1=>by rw [yL,valW,phn k]
theorem po3 (k):okW (List.replicate k 0):=fun d a=>by rw [uT] at a;omega
theorem pji:∀ q l,okW l->valW l / 4294967296 ^ q=valW (l.drop q)
 | 0,l,_=>by simp
 | q+1,[],_=>by simp [valW]
 | q+1,d :: r,h=>by
  have e:=h d (by simp)
  have c:=pji q r (fun x a=>h x (by simp [a]))
  rw [List.drop_succ_cons,<-c,valW,x8,yk (4294967296 ^ q) 4294967296,<-ut]
  rw [show (d+4294967296 * valW r) / 4294967296=valW r by omega]
def po4 (V i:Nat):Nat:=V / 256 ^ i % 256
theorem pl2 (V i):po4 V i<256:=yP _ (by decide)
theorem pl3:(256:Nat) ^ 4=4294967296:=by decide
theorem p2_8:(2:Nat) ^ 8=256:=by decide
theorem pq6 {l} (h:okW l) {q r d} (a:l[q]? =some d) (j:r<4):po4 (valW l) (4 * q+r)=d / 2 ^ (8 * r) % 256:=by
 unfold po4;have e:(256:Nat) ^ (4 * q+r)=4294967296 ^ q * 256 ^ r:=by rw [uF,zj,pl3]
 have c:(256:Nat) ^ r=2 ^ (8 * r):=by rw [zj,p2_8]
 rw [e,<-ut,pji q l h,pgT a,<-c];have m:=h d (xt a);generalize valW (l.drop (q+1))=z;have f:r=0\/r=1\/r=2\/r=3:=by omega
 clear e c j a;rcases f with rfl | rfl | rfl | rfl
 · simp only [vh,Nat.div_one];omega
 · simp only [Nat.pow_one];omega
 · have g:(256:Nat) ^ 2=65536:=by decide
   rw [g];omega
 · have k:(256:Nat) ^ 3=16777216:=by decide
   rw [k];omega
def beN (V:Nat):Nat->List UInt8
 | 0=>[]
 | n+1=>UInt8.ofNat (po4 V n) :: beN V n
theorem ph6 (V):∀ n,(beN V n).length=n
 | 0=>rfl
 | n+1=>by rw [beN,xF,ph6 V n]
theorem pl4 (V):∀ n,natB (beN V n)=V % 256 ^ n
 | 0=>by rw [vh,Nat.mod_one];rfl
 | n+1=>by
  rw [beN,pgk,ph6,pl4 V n,yn,xV (pl2 V n),x8,Nat.mod_mul,Nat.add_comm,yk]
  rfl
theorem pjj {V n} (h:V<256 ^ n):natB (beN V n)=V:=by rw [pl4,xV h]
end Go.Proofs.YtkhjolbbpdaplaaGreatDoor
