/-
   And what follows.
-/
import Derived.Test.YtcpdlhgkdogdjaaDoorPao
import Derived.Test.YtcpdlhgkdogdjaaDoorPam
set_option linter.unusedSimpArgs false
set_option linter.unusedVariables false
namespace Go.Sx
open Go.RowKit Go.Proofs
set_option maxRecDepth 100000
set_option maxHeartbeats 8000000
noncomputable def m9 (gl:Nat→C)(M:Nat)(pu:Nat→List C→Option C):Cx:=⟨Tryd.prog,M,gl,pu,fun _ _ _=>none,fun _=>false,qy,true⟩
noncomputable def lm (gl:Nat→C)(M:Nat)(pu:Nat→List C→Option C):Cx:=⟨Tryd.prog,M,gl,pu,fun _ _ _=>none,fun _=>false,qy,false⟩
theorem qp {gl:Nat→C}{M:Nat}{pu:Nat→List C→Option C}(hcx:CxOK (ax gl M pu)):CxOK (m9 gl M pu):=⟨hcx.glo,hcx.pu,(fun _ _ _ _ _ h=>by cases h),Gr⟩
section
variable {gl:Nat→C} {M:Nat} {pu:Nat→List C→Option C}
theorem YZ: (m9 gl M pu).P=Tryd.prog:=rfl
theorem Y0: (m9 gl M pu).N=M:=rfl
theorem UE: (m9 gl M pu).pu=pu:=rfl
theorem UF (d:Option Nat):kW (m9 gl M pu) d=false:=by cases d<;>rfl
theorem UG: (lm gl M pu).P=Tryd.prog:=rfl
theorem UH: (lm gl M pu).N=M:=rfl
theorem OU: (lm gl M pu).pu=pu:=rfl
theorem OV (d:Option Nat):kW (lm gl M pu) d=false:=by cases d<;>rfl
theorem UI {n:Nat}{Q:Ex→St→Prop}{g f m:Nat}{ps:List Nat}{assign body:Code}{e:List (Nat×C)}{h:Hp}{caps:List C}(N:Nat)(xs:Nat→List C)(H:Nat→Hp)(R:Nat→Hp→Prop)(hg:A e g= .fn f caps)(hI:ItrB Tryd.prog gl f caps N xs R∧∀i,R m (H i))
 (hx:∀i,i< N→(xs i).length=ps.length) (hp:∀p∈ps,p< M) (h0:h=H 0)
 (hb:∀i,i< N→Tr (lm gl M pu) (H i).length assign ⟨A (iX ps (xs i) (rz e)),H i⟩ fun x s=>x= .normal∧Tr (lm gl M pu) (H i).length body s (RoundQ (H i).length (fun k=>k=H (i+1)) fun x h'=>Q x ⟨A e,h'⟩))
 (hd:Q .normal ⟨A e,H N⟩):Tr (m9 gl M pu) n (.rangeFunc (.tmp g) ps.toArray assign body) ⟨A e,h⟩ Q:=
 Tl (cx:=m9 gl M pu) rfl N xs H hg hI.1 m hI.2 hx hp h0 hb hd
end
attribute [go_sem] YZ Y0 UE UF UG UH OU OV
theorem acr:td Tryd.prog 92=some ⟨.map 34 4,1,8,[.map none]⟩:=by kernel_rfl
theorem Y1:fK Tryd.prog 92=some (.mo sX):=Oo Cm
theorem UJ (cx:Cx)(b:Nat)(x:ID)(v:C):fL cx 92 (.mp b) (.agg (iD x)) v=some (.mo (qI cx 92 b (ls x) v)):=Oq cx 92 b _ v _ rfl
theorem OW (cx:Cx)(b:Nat)(x:ID)(ok:Bool):eR cx 92 (.mp b) (.agg (iD x)) ok=some (.mo (nS cx 92 b (ls x) ok)):=Jb cx 92 b _ _ ok rfl
theorem UK (cx:Cx)(b:Nat)(x:ID):fM cx 92 (.mp b) (.agg (iD x)) =some (.mo (qJ cx 92 b (ls x))):=Or cx 92 b _ _ rfl
theorem E8 {P:Program}(t:TypeId)(b o m:Nat)(k:Option Nat):cq P t (.bp b o) (.mp m) k=mW (td P t) b o (some [.mp m]):=by
 unfold cq mW;cases td P t<;>rfl
theorem Y2: (Value.map none).oneCell'=true:=rfl
attribute [go_sem] acr Y1 UJ OW UK Y2 E8
theorem tB {gl:Nat→C}{M:Nat}{pu:Nat→List C→Option C}(hcx:CxOK (m9 gl M pu)):CxOK (ax gl M pu):=⟨hcx.glo,hcx.pu,(fun _ _ _ _ _ h=>by cases h),fun _ _ h=>by cases h⟩
theorem RowN.m {n:Nat}{h:Hp}{l:List C}(H:RowN n h)(h1:noRefs 0 (dq l) =true):RowN (n+1) (some (dq l)::h):=
 ⟨by simp[H.len],by rw[kM,h1,H.nr];rfl,fun j hj=>by
   cases j with
   |zero=>left;rw[xH];simp[eK,dq]
   |succ j=>
    have:=H.lv j (by omega);rw[rV,r9];simpa using this⟩
theorem E9 (ok:Nat→Bool)(b:Nat)(ys:List C):fzCs ok b ys (dq []) =dq []:=by simp only[dq,fzCs,bh]
attribute [go_sem] GQ E9
theorem yb (k:Nat)(M:List ID):noRefs k (dq (dl M)) =true:=by simp only[dq,noRefs,ae,vc,Bool.and_self]
attribute [go_sem] yb
theorem OX (l:List ID)(i:Nat)(h:i< l.length):gt l i∈l:=by simp[gt,List.getD,List.getElem?_eq_getElem h]
theorem qV (M:List ID):noRefs 0 (dq (dl M)) =true:=by simp only[dq,noRefs,ae,vc,Bool.and_self]
def dv (M:List ID):List aI→List ID×List ID
 | [] =>(M,[])
 |p::l=>if p.1∈M then ((dv (M.erase p.1) l).1,p.1:: (dv (M.erase p.1) l).2) else dv M l
theorem sh:∀ (M:List ID)(l:List aI),(dv M l).2.length≤l.length
 |M,[] =>Nat.le_refl _
 |M,q::l=>by
  simp only[dv];split
  . have:=sh (M.erase q.1) l
    simp only[List.length_cons];omega
  . have:=sh M l
    simp only[List.length_cons];omega
def dz (l:List ID):List ID:=l.foldl nG []
theorem Ai (l:List ID)(i:Nat)(h:i< l.length):nG (dz (l.take i)) (gt l i) =dz (l.take (i+1)):=by
 rw[←eX l i h];unfold dz;rw[List.foldl_append];rfl
theorem si:∀ (M:List ID)(l:List aI)(p:aI),dv M (l++[p]) =if p.1∈ (dv M l).1 then ((dv M l).1.erase p.1,(dv M l).2++[p.1]) else dv M l
 |M,[],p=>by by_cases h:p.1∈M<;>simp[dv,h]
 |M,q::l,p=>by
  simp only[List.cons_append,dv];split
  . rw[si (M.erase q.1) l p]
    split<;>simp
  . exact si M l p
theorem uO:∀ (M:List ID)(l:List aI),OkI M→OkI (dv M l).1
 |M,[],h=>h
 |M,q::l,h=>by
  simp only[dv];split
  . exact uO (M.erase q.1) l (h.del q.1)
  . exact uO M l h
theorem uP {l:List ID}(h:∀x∈l,cz x):OkI (dz l):=by
 have:∀ (l M:List ID),OkI M→(∀x∈l,cz x)→OkI (l.foldl nG M):=fun l=>by
  induction l with
  |nil=>intro M hM _;exact hM
  |cons x l ih=>intro M hM hl;exact ih _ (hM.ins (hl x (List.mem_cons_self ..))) fun y hy=>hl y (List.mem_cons_of_mem _ hy)
 exact this l [] OkI.nil h
theorem fe {p:Prop}(e:p:=by intro KZ hZ;simp -implicitDefEqProofs (disch:=first|omega| (simp only[go_sem,lA,lD,lT,hT] <;>omega) |decide) only[go_sem,↓reduceIte,Nat.reduceEqDiff,reduceCtorEq,Nat.reduceLT,Nat.reduceBEq,Nat.reduceAdd,h53,ep,c1,hy];with_reducible exact hZ):p:=e
theorem UL {p:Prop}(e:p:=by simp -implicitDefEqProofs (disch:=first|omega| (simp only[go_sem,lA,lD,lT,hT] <;>omega) |decide) only[go_sem,↓reduceIte,Nat.reduceEqDiff,reduceCtorEq];all_goals (rfl)):p:=e
theorem acs {gl:Nat→C}{M:Nat}{pu:Nat→List C→Option C}(hcx:CxOK (m9 gl M pu))(h53:∀w:ah,pu 53 [.agg [sl vC .no w]] =some (.fn 93 [.kp [sl vC .no w]]))(w:ah)(l:List ID)(hw:WS w)(hl:∀x∈l,cz x)(hl2:l.length≤1000000)(hid:∀i,i< (bm w).length→cz (gt (bm w) i).2.1):FC Tryd.prog gl 28 [.agg [sl vC .no w],sl iD .no l] [] (sl iD .no (dv (dz l) (cm w)).2) []:=by
 replace hcx:=hcx.reN (M:=38);refine aH (cx:=m9 gl 38 pu) (rs:=[.tmp 4]) rfl Tryd.func28 rfl rfl rfl (by simp only[List.length_cons,List.length_nil];decide) (by simp only[go_sem]) ?_;simp only[bj,go_sem];have ⟨c1,hy,ep,hT⟩:=jd;have hmv:=fun (ρ:List Nat) (M:List ID) =>mvCs_nr ρ (dq (dl M)) (qV M);refine Tr.w hcx [] _ [none] rfl rfl rfl ?_ fe;refine Tr.w hcx [] _ [none] rfl rfl rfl ?_ fe;refine aa fun K1 hK1=>?_;refine aL hcx 0 [sl vC .no w] ?_;refine aL hcx 1 [.mp 2] ?_;refine Tr.k [1,2,5] ?_;refine aW hcx [2] ?_;refine Tr.w hcx [] _ [] rfl rfl rfl ?_ fe;refine Tr.k [2,5,12,13,14] ?_;refine Tr.blk ?_;refine rZ hcx (α:=Nat) (fun a=>[(2,?v2_1),(5,?v5_1),(12,?v12_1),(13,?v13_1),(14,.val (nI a))]) (fun a=>[some (dq (dl (dz (l.take a))))]) (fun a=>a≤l.length) (fun a=>l.length - a) (0) (Nat.zero_le _) ?le_1 ?hh_1 ?bd_1
 case hh_1=>exact rfl
 case le_1=>exact LT
 rintro i hi;refine Tr.w hcx [] _ [] rfl rfl rfl ?_ fe;refine aa fun K2 hK2=>?_;refine af rfl (fun hc15=>?_) (fun hc15=>?_)
 ·
  have ex:cz (gt l i):=hl _ (OX l i hc15);have hM:OkI (dz (l.take i)):=uP fun x hx=>hl x (List.mem_of_mem_take hx);have ep:=LQ (cx:=⟨Tryd.prog,38,gl,pu,fun _ _ _=>none,fun _=>false,qy,true⟩) rfl rfl (h:=[some (dq (dl (dz (l.take i)))),some (iD (gt l i))]) (b:=0) rfl hM ex;refine Tr.skip ?_;refine hK2 _ ?_;refine aa fun K3 hK3=>?_;refine Tr.blk ?_;refine Tr.w hcx [] _ [none] rfl rfl rfl ?_ fe;have hy:= @ep;refine Tr.v hcx [] _ [] rfl rfl rfl ?_ fe;refine hK3 _ ?_;have hy:=True.intro;refine Tr.v hcx [] _ [] rfl rfl rfl ?_ fe;first
  |exact ⟨[0],⟨by decide,by decide,by decide⟩,i+1,⟨(by omega),O1⟩,LM,by simp only[mz,jx,iE,ms,mw,Option.map_some,Option.map_none,c9,mr,jw,iB,kr,jF,jR,mj,ml,mm,ku,mn,iu,iw,ix,iy,iz,iA,ko,jv,↓reduceIte,Nat.reduceEqDiff,reduceCtorEq,Nat.reduceAdd,Nat.zero_add,Nat.one_ne_zero,Nat.zero_ne_one,mq,mB,iF,iG,mC,iH,iI,hmv];rw[Ai l _ hc15]⟩
 obtain rfl:i=l.length:=by omega
 rw[List.take_length];refine Tr.exit ?_;refine hK1 _ ?_;refine Tr.w hcx [] _ [none] rfl rfl rfl ?_ fe;refine aa fun K4 hK4=>?_;refine Tr.w hcx [] _ [] rfl rfl rfl ?_ fe;refine Tr.blk ?_;refine Tr.k [5,8,22] ?_;refine Tr.bxc 1 0 (sl iD (.own 3) []) _ rfl rfl (ay rfl) rfl ?_;simp only[List.set_cons_succ,List.set_cons_zero];refine UI ((bm w).length) (vR w) (fun i=>[some (dq (dl (dv (dz l) ((cm w).take i)).1)),some [sl iD (.own 3) (dv (dz l) ((cm w).take i)).2]]) (RowN) rfl (⟨yE (tB hcx) w hw.1,fun i=>(RowN.nil.c (by simp only[cH,cV,bf,Bool.and_self]) rfl).m (qV _)⟩) (fun i hi=>rfl) (by decide) (rfl) ?rb_2 ?rd_2
 case rb_2=>
  intro i hi;replace hcx:=hcx.rnd;have bM:= @yF;simp only[go_sem];have eP:=qx w i hi;have hM:OkI (dv (dz l) ((cm w).take i)).1:=uO _ _ (uP hl);have hT: (dv (dz l) ((cm w).take i)).2.length≤i:=Nat.le_trans (sh _ _) (by rw[List.length_take];omega);have hw2:=hw.2.1;have ex:=hid i hi;obtain ⟨P,hP⟩:∃P,(gt (bm w) i).2=P:=⟨_,rfl⟩;rw[hP] at ex eP;rw[hP];have hS:=si (dz l) ((cm w).take i) P;rw[show (cm w).take i++[P] = (cm w).take (i+1) from by rw[←eP];exact eX _ _ (by rw[gU];exact hi)] at hS;obtain ⟨S,hSS⟩:∃S,dv (dz l) ((cm w).take i) =S:=⟨_,rfl⟩;rw[hSS] at hM hS hT;rw[hSS];have ep:=And.intro (fun r=>Gs (cx:=lm gl 38 pu) rfl rfl (h:=some (dq (dl S.1))::r) (b:=0) rfl hM ex) (fun r=>Z9 (cx:=lm gl 38 pu) rfl rfl (h:=some (dq (dl S.1))::r) (b:=0) rfl hM ex);refine Tr.v hcx [] _ [none] rfl rfl rfl ?_ fe;refine ⟨rfl,?_⟩;refine Tr.k [5,8,10] ?_;refine Tr.blk ?_;by_cases c1:P.1∈S.1
  ·
   refine Tr.w hcx [] _ [] rfl rfl rfl ?_ fe;refine aG rfl ?_;refine Tr.w hcx [29] _ [] rfl rfl rfl ?_ fe;refine Tr.v hcx [] _ [] rfl rfl rfl ?_ fe;exact RoundQ.c (by simp only[hS,if_pos c1];rfl)
  refine Tr.w hcx [] _ [] rfl rfl rfl ?_ fe;refine aq rfl ?_;refine Tr.skip ?_;exact RoundQ.c (by simp only[hS,if_neg c1];rfl)
 case rd_2=>
  refine hK4 _ ?_;rw[List.take_of_length_le (show (cm w).length≤(bm w).length by rw[gU];exact Nat.le_refl _)];refine Tr.w hcx [1000037] _ [] rfl rfl rfl ?_ fe;refine Tr.live [(4,sl iD .no (dv (dz l) (cm w)).2)] (by simp only[aK,aX,↓aT,↓reduceIte,Nat.reduceEqDiff,and_true];exact CLe.refl _) ?_;exact Tr.ret UL
noncomputable def cJ (gl:Nat→C)(M:Nat)(pu:Nat→List C→Option C)(hp:Nat→List C→Hp→Option (C×Hp)):Cx:=⟨Tryd.prog,M,gl,pu,hp,fun _=>false,qy,true⟩
section
variable {gl:Nat→C} {M:Nat} {pu:Nat→List C→Option C} {hp:Nat→List C→Hp→Option (C×Hp)}
theorem aaa: (cJ gl M pu hp).P=Tryd.prog:=rfl
theorem aab: (cJ gl M pu hp).N=M:=rfl
theorem Xm: (cJ gl M pu hp).pu=pu:=rfl
theorem Xn: (cJ gl M pu hp).hp=hp:=rfl
theorem Xo (g:Nat)(az:List C)(o:Option (C×Hp)):mX (cJ gl M pu hp) g az none o=some (.call g az):=rfl
theorem Xp (d:Option Nat):kW (cJ gl M pu hp) d=false:=by cases d<;>rfl
end
theorem gY {gl:Nat→C}{M:Nat}{pu:Nat→List C→Option C}{hp:Nat→List C→Hp→Option (C×Hp)}: (cJ gl M pu hp).P.follows .mixedOrders=true:=bM (gl:=gl) (M:=M) (pu:=pu)
attribute [go_sem] Xo aaa aab Xm Xn Xp
theorem OO {p:Prop}(e:p:=by simp -implicitDefEqProofs (disch:=first|omega| (simp only[go_sem,lA,lD,lT] <;>omega) |decide) only[go_sem,↓reduceIte,Nat.reduceEqDiff,reduceCtorEq];all_goals (first|exact ⟨trivial,trivial⟩ |trivial|rfl)):p:=e
theorem YW {gl:Nat→C}{M:Nat}{pu:Nat→List C→Option C}(hcx:CxOK (ax gl M pu))(b:List UInt8)(p:Nat):FC Tryd.prog gl 122 [sl bC .no b,.val (nI p)] [] (.fn 128 [.bp 0 0,.bp 1 0]) [some [sl bC .no b],some [.val (nI (p))]]:=by
 replace hcx:=hcx.reN (M:=6);refine gc (cx:=ax gl 6 pu) (rs:=[.tmp 4]) rfl Tryd.func122 rfl rfl rfl (by simp only[List.length_cons,List.length_nil];decide) ?_;simp only[bj,go_sem];have hy:=True.intro;refine Tr.w hcx [] _ [none,none] rfl rfl rfl ?_ eN;refine Tr.w hcx [1000005] _ [] rfl rfl rfl ?_ eN;exact Tr.ret OO
theorem OP {p:Prop}(e:p:=by intro KZ hZ;simp -implicitDefEqProofs (disch:=first|omega| (simp only[go_sem,lA,lD,lT,hgb] <;>omega) |decide) only[go_sem,↓reduceIte,Nat.reduceEqDiff,reduceCtorEq,Nat.reduceLT,Nat.reduceBEq,Nat.reduceAdd,h111,hy];with_reducible refine And.intro ?_ hZ;first|exact rfl|decide):p:=e
theorem OQ {p:Prop}(e:p:=by simp -implicitDefEqProofs (disch:=first|omega| (simp only[go_sem,lA,lD,lT,hgb] <;>omega) |decide) only[go_sem,↓reduceIte,Nat.reduceEqDiff,reduceCtorEq];all_goals (first|exact ⟨trivial,trivial⟩ |trivial|rfl)):p:=e
theorem YX {gl:Nat→C}{M:Nat}{pu:Nat→List C→Option C}(hcx:CxOK (ax gl M pu))(h111:∀b:List UInt8,b.length< 1099511627776→pu 105 [sl bC .no b] =some (.tup [.val (.int .i64 (ab b).1),.val (nI (ab b).2.1),.val (nI (ab b).2.2)]))(b:List UInt8)(p:Nat)(hb:b.length< 1099511627776)(hp:p≤b.length):FC Tryd.prog gl 128 [.bp 0 0,.bp 1 0] [some [sl bC .no b],some [.val (nI (p))]] (.tup [.val (.int .i64 (ab (b.drop p)).1),.val (nI (p+(ab (b.drop p)).2.1)),.val (nI (ab (b.drop p)).2.2)]) [some [sl bC .no b],some [.val (nI (p+(ab (b.drop p)).2.1))]]:=by
 replace hcx:=hcx.reN (M:=22);refine gc (cx:=ax gl 22 pu) (rs:=[.tmp 2,.tmp 3,.tmp 4]) rfl Tryd.func128 rfl rfl rfl (by simp only[List.length_cons,List.length_nil];decide) ?_;simp only[bj,go_sem];have hy:=True.intro;have hgb:=du (b.drop p);rw[List.length_drop] at hgb;refine Tr.w hcx [] _ [] rfl rfl rfl ?_ jU;refine Tr.w hcx [1000013,1000014,1000015] _ [] rfl rfl rfl ?_ jU;refine Tr.w hcx [] _ [] rfl rfl rfl ?_ jU;refine cf hcx bM [1000019,1000020,1000021] _ [] rfl rfl rfl rfl ?_ OP;exact Tr.ret OQ
theorem dY {p:Prop}(e:p:=by intro KZ hZ;simp -implicitDefEqProofs (disch:=first|omega| (simp only[go_sem,lA,lD,lT,hgb,hcl] <;>omega) |decide) only[go_sem,↓reduceIte,Nat.reduceEqDiff,reduceCtorEq,Nat.reduceLT,Nat.reduceBEq,Nat.reduceAdd,h107,h107e,p97,p112,q97,q112m,q112,hcE,hy];with_reducible exact hZ):p:=e
theorem uM {p:Prop}(e:p:=by simp -implicitDefEqProofs (disch:=first|omega| (simp only[go_sem,lA,lD,lT,hgb,hcl] <;>omega) |decide) only[go_sem,↓reduceIte,Nat.reduceEqDiff,reduceCtorEq];all_goals (first| (rw[oe hcE,←hst,Ln (by omega) hc35];try rfl) | (rw[oe hcE,←hst];try rfl) | (rw[tq hcE];try rfl))):p:=e
theorem YY {gl:Nat→C}{M:Nat}{pu:Nat→List C→Option C}{hp:Nat→List C→Hp→Option (C×Hp)}(hcx:CxOK (cJ gl M pu hp))(h107w:∀ (b:List UInt8) (s:Nat),b.length< 1099511627776∧0< s∧s≤16→pu 107 [sl bC .no b,.val (nI s)] =some (rB b s))(p97:∀ (b:List UInt8) (p:Nat),pu 122 [sl bC .no b,.val (nI p)] =none)(p112:pu 128 [.bp 0 0,.bp 1 0] =none)(q97:∀ (b:List UInt8) (p:Nat),hp 122 [sl bC .no b,.val (nI p)] [] =some (.fn 128 [.bp 0 0,.bp 1 0],[some [sl bC .no b],some [.val (nI (p))]]))(m41:C×Hp)(q112m:hp 128 [.bp 0 0,.bp 1 0] [] =some m41)(q112:∀ (b:List UInt8) (p:Nat),b.length< 1099511627776∧p≤b.length→hp 128 [.bp 0 0,.bp 1 0] [some [sl bC .no b],some [.val (nI (p))]] =some (.tup [.val (.int .i64 (ab (b.drop p)).1),.val (nI (p+(ab (b.drop p)).2.1)),.val (nI (ab (b.drop p)).2.2)],[some [sl bC .no b],some [.val (nI (p+(ab (b.drop p)).2.1))]]))(b:List UInt8)(hb:b.length< 1099511627776):FC Tryd.prog gl 109 [sl bC .no b] [] (.tup [sl iC .no (aS ab 1 b).1,.val (nI (aS ab 1 b).2.1),.val (nI (aS ab 1 b).2.2)]) []:=by
 replace hcx:=hcx.reN (M:=45);refine aH (cx:=cJ gl 45 pu hp) (rs:=[.tmp 2,.tmp 3,.tmp 4]) rfl Tryd.func109 rfl rfl rfl (by simp only[List.length_cons,List.length_nil];decide) (by simp only[go_sem]) ?_;simp only[bj,go_sem];have ⟨hcE,hy⟩:=fo;have h107:∀ (b:List UInt8)(s:Nat),b.length< 1099511627776∧0< s∧s≤16∧b9 b s=0→pu 107 [sl bC .no b,.val (nI s)] =some (.tup [.val (nI (cn b)),.val (nI (ca b)),.val (nI 0)]):=fun b s h=>(h107w b s ⟨h.1,h.2.1,h.2.2.1⟩).trans (by unfold rB;rw[if_pos h.2.2.2]);have h107e:∀ (b:List UInt8)(s:Nat),b.length< 1099511627776∧0< s∧s≤16∧¬b9 b s=0→pu 107 [sl bC .no b,.val (nI s)] =some (.tup [.val (.int .i64 (ab b).1),.val (nI (ab b).2.1),.val (nI (b9 b s))]):=fun b s h=>(h107w b s ⟨h.1,h.2.1,h.2.2.1⟩).trans (by unfold rB;rw[if_neg h.2.2.2]);have hgb:=du b;have hcl:=od b 1;refine Tr.w hcx [] _ [] rfl rfl rfl ?_ dY;by_cases hcE:b9 b 1=0
 ·
  have hok:=k9 (by decide) hcE;refine Tr.w hcx [1000016,1000017,1000018] _ [] rfl rfl rfl ?_ dY;refine aa fun K1 hK1=>?_;refine Tr.w hcx [] _ [] rfl rfl rfl ?_ dY;refine aq rfl ?_;refine Tr.skip ?_;refine hK1 _ ?_;refine Tr.w hcx [1000024] _ [] rfl rfl rfl ?_ dY;refine Tr.w hcx [] _ [] rfl rfl rfl ?_ dY;refine aa fun K2 hK2=>?_;refine Tr.w hcx [] _ [] rfl rfl rfl ?_ dY;refine Tr.k [6,8,9,25,26] ?_;refine Tr.blk ?_;refine ao (α:=(Nat×Nat×List Int)) (fun a=>[(6,.val (nI a.2.1)),(8,?v8_1),(9,sl iC (.own 1) a.2.2),(25,?v25_1),(26,.val (nI a.1))]) (fun a=>[some [sl bC .no b],some [.val (nI (a.2.1))]]) (fun a=>a.1≤cn b∧a.2.1≤b.length∧a.2.2.length=a.1∧fm ab b (cn b - a.1) a.2.1 a.2.2=fm ab b (cn b) (ca b) []) (fun a=>cn b - a.1) ((0,ca b,[])) ?_ ?le_1 ?hh_1 ?bd_1
  case hh_1=>exact rfl
  case le_1=>exact LT
  . exact ⟨Nat.zero_le _,hok.2.2.2.2.1,rfl,rfl⟩
  rintro ⟨i,p,l⟩ ⟨hi,hp,hll,hst⟩
  dsimp only at*
  have hbd:=du (b.drop p);rw[List.length_drop] at hbd;refine Tr.w hcx [] _ [] rfl rfl rfl ?_ dY;refine aa fun K3 hK3=>?_;refine af rfl (fun hc27=>?_) (fun hc27=>?_)
  ·
   refine Tr.skip ?_;refine hK3 _ ?_;refine aa fun K4 hK4=>?_;refine Tr.blk ?_;refine Tr.w hcx [1000031,1000032,1000033] _ [] rfl rfl rfl ?_ dY;refine aa fun K5 hK5=>?_;refine Tr.w hcx [] _ [] rfl rfl rfl ?_ dY;refine af rfl (fun hc35=>?_) (fun hc35=>?_)
   ·
    refine Tr.w hcx [1000036] _ [] rfl rfl rfl ?_ dY;first| (refine Tr.k [2,3,4] ?_;refine lK iC .no (by decide) (by decide) (by decide) ?_) |skip
    exact Tr.ret uM
   refine Tr.skip ?_;refine hK5 _ ?_;refine Tr.v hcx [37,1000040,1000041] _ [] rfl rfl rfl ?_ dY;refine hK4 _ ?_;refine Tr.v hcx [] _ [] rfl rfl rfl ?_ dY;exact ⟨(i+1,p+(ab (b.drop p)).2.1,l++[(ab (b.drop p)).1]),⟨⟨by show i+1≤cn b;omega,by show p+(ab (b.drop p)).2.1≤b.length;omega,by show (l++[(ab (b.drop p)).1]).length=i+1;rw[List.length_append,hll];rfl,(Lo hc27 (Classical.not_not.1 hc35)).symm.trans hst⟩,O1⟩,LT,rfl⟩
  have hie:i=cn b:=by omega
  rw[hie,Nat.sub_self,Lm] at hst;refine Tr.exit ?_;refine hK2 _ ?_;refine Tr.w hcx [1000043,1000044] _ [] rfl rfl rfl ?_ dY;first| (refine Tr.k [2,3,4] ?_;refine lK iC .no (by decide) (by decide) (by decide) ?_) |skip
  exact Tr.ret uM
 have hok:=True.intro;refine Tr.w hcx [1000016,1000017,1000018] _ [] rfl rfl rfl ?_ dY;refine aa fun K6 hK6=>?_;refine Tr.w hcx [] _ [] rfl rfl rfl ?_ dY;refine aG rfl ?_;refine Tr.w hcx [1000021] _ [] rfl rfl rfl ?_ dY;first| (refine Tr.k [2,3,4] ?_;refine lK iC .no (by decide) (by decide) (by decide) ?_) |skip
 exact Tr.ret uM
abbrev Jw:=Option {x:List UInt8×Nat // x.1.length< 1099511627776∧x.2≤x.1.length}
def tr (x:List UInt8×Nat):List C×Hp:=([sl bC .no x.1,.val (nI x.2)],[])
def tu (x:List UInt8×Nat):C×Hp:=(.fn 128 [.bp 0 0,.bp 1 0],[some [sl bC .no x.1],some [.val (nI x.2)]])
def og (x:Jw):List C×Hp:=match x with
 |none=>([.bp 0 0,.bp 1 0],[])
 |some x=>([.bp 0 0,.bp 1 0],[some [sl bC .no x.1.1],some [.val (nI x.1.2)]])
def tv (x:Jw):C×Hp:=match x with
 |none=>(.top,[])
 |some x=>(.tup [.val (.int .i64 (ab (x.1.1.drop x.1.2)).1),.val (nI (x.1.2+(ab (x.1.1.drop x.1.2)).2.1)),.val (nI (ab (x.1.1.drop x.1.2)).2.2)],[some [sl bC .no x.1.1],some [.val (nI (x.1.2+(ab (x.1.1.drop x.1.2)).2.1))]])
noncomputable def BZ:Nat→List C→Hp→Option (C×Hp):=Sx.extH (Sx.extH (fun _ _ _=>none) 122 (mi tr tu)) 128 (mi og tv)
theorem acp (x y:List UInt8×Nat)(h:tr x=tr y):tu x=tu y:=by
 simp only[tr,Prod.mk.injEq,List.cons.injEq,kX,C.val.injEq,me,and_true] at h;unfold tu;rw[h.1,h.2]
theorem Lp (x y:Jw)(h:og x=og y):tv x=tv y:=by
 rcases x with _|x<;>rcases y with _|y
 . rfl
 . simp[og] at h
 . simp[og] at h
 . simp only[og,Prod.mk.injEq,List.cons.injEq,Option.some.injEq,kX,C.val.injEq,me,and_true,true_and] at h
   unfold tv;simp only[h.1,h.2]
theorem OL (b:List UInt8)(p:Nat):BZ 122 [sl bC .no b,.val (nI p)] [] =some (.fn 128 [.bp 0 0,.bp 1 0],[some [sl bC .no b],some [.val (nI p)]]):=
 (mY (by decide) _ _).trans ((jt _ _).trans (kl acp (b,p)))
theorem E5:BZ 128 [.bp 0 0,.bp 1 0] [] =some (.top,[]):=(jt _ _).trans (kl Lp none)
theorem Jx (b:List UInt8)(p:Nat)(h:b.length< 1099511627776∧p≤b.length):BZ 128 [.bp 0 0,.bp 1 0] [some [sl bC .no b],some [.val (nI p)]] =some (.tup [.val (.int .i64 (ab (b.drop p)).1),.val (nI (p+(ab (b.drop p)).2.1)),.val (nI (ab (b.drop p)).2.2)],[some [sl bC .no b],some [.val (nI (p+(ab (b.drop p)).2.1))]]):=
 (jt _ _).trans (kl Lp (some ⟨(b,p),h⟩))
theorem Tz:jB Tryd.prog 128:=⟨_,Tryd.func128,rfl,rfl⟩
theorem ON {gl:Nat→C}{M:Nat}{pu:Nat→List C→Option C}(hcx:CxOK (ax gl M pu))(h111:∀b:List UInt8,b.length< 1099511627776→pu 105 [sl bC .no b] =some (.tup [.val (.int .i64 (ab b).1),.val (nI (ab b).2.1),.val (nI (ab b).2.2)])):
 CxOK (cJ gl M pu BZ):=by
 have h1:CxOK ⟨Tryd.prog,M,gl,pu,Sx.extH (fun _ _ _=>none) 122 (mi tr tu),fun _=>false,qy,true⟩:=CxOK.extH (N:=M) (qp hcx) fun x=>YW hcx x.1 x.2;refine CxOK.extH (N:=M) h1 fun x=>?_;rcases x with _|x
 . exact Sq Tz
 . exact YX hcx h111 x.1.1 x.1.2 x.2.1 x.2.2
theorem TA {gl:Nat→C}{M:Nat}{pu:Nat→List C→Option C}(hcx:CxOK (ax gl M pu))(hnr:∀ (g:Nat) (xs:List C),noRefs 0 xs=false→pu g xs=none)(n97:∀xs:List C,pu 122 xs=none)(h111:∀b:List UInt8,b.length< 1099511627776→pu 105 [sl bC .no b] =some (.tup [.val (.int .i64 (ab b).1),.val (nI (ab b).2.1),.val (nI (ab b).2.2)]))(h107w:∀ (b:List UInt8) (s:Nat),b.length< 1099511627776∧0< s∧s≤16→pu 107 [sl bC .no b,.val (nI s)] =some (rB b s))(b:List UInt8)(hb:b.length< 1099511627776):FC Tryd.prog gl 109 [sl bC .no b] [] (.tup [sl iC .no (aS ab 1 b).1,.val (nI (aS ab 1 b).2.1),.val (nI (aS ab 1 b).2.2)]) []:=
 YY (ON hcx h111) h107w (fun _ _=>n97 _) (hnr _ _ rfl) OL (.top,[]) E5 Jx b hb
theorem TB {gl:Nat→C}{M:Nat}{pu:Nat→List C→Option C}(hcx:CxOK (ax gl M pu))(h111:∀b:List UInt8,b.length< 1099511627776→pu 105 [sl bC .no b] =some (.tup [.val (.int .i64 (ab b).1),.val (nI (ab b).2.1),.val (nI (ab b).2.2)]))(b:List UInt8)(s:Nat)(hb:b.length< 1099511627776)(hs:0< s∧s≤16):FC Tryd.prog gl 107 [sl bC .no b,.val (nI s)] [] (rB b s) []:=by
 have h:=YT hcx h111 b s hb hs;unfold rB;split
 . rename_i hE
   have h1:=k9 hs.1 hE;rw[hE,h1.2.1] at h;exact h
 . exact h
theorem TC {gl:Nat→C}{M:Nat}{pu:Nat→List C→Option C}(hcx:CxOK (ax gl M pu))(h101:∀b:List UInt8,b.length< 1099511627776→pu 116 [sl bC .no b] =some (.tup [.val (.int .i64 (ab b).1),.val (nI (ab b).2.1),.val (nI (ab b).2.2)]))(b:List UInt8)(s:Nat)(hb:b.length< 1099511627776)(hs:0< s∧s≤16):FC Tryd.prog gl 130 [sl bC .no b,.val (nI s)] [] (tw b s) []:=by
 unfold tw;split
 . rename_i hE;exact TE hcx h101 b s hb hs hE
 . rename_i hE;exact TF hcx h101 b s hb hs hE
theorem bD {p:Prop}(e:p:=by intro KZ hZ;simp -implicitDefEqProofs (disch:=first|omega| (simp only[go_sem,lA,lD,lT,hb1] <;>omega) |decide) only[go_sem,↓reduceIte,Nat.reduceEqDiff,reduceCtorEq,Nat.reduceLT,Nat.reduceBEq,Nat.reduceAdd,Nat.add_sub_cancel,List.take_length,hk0,hy];exact hZ):p:=e
theorem gS {p:Prop}(e:p:=by simp -implicitDefEqProofs (disch:=first|omega| (simp only[go_sem,lA,lD,lT,hb1] <;>omega) |decide) only[go_sem,↓reduceIte,Nat.reduceEqDiff,reduceCtorEq];all_goals (first|rfl| (rw[hbe,tj hk hc24];rfl) | (rw[hbe,tk hk hc24 (by rw[←hbe];exact hc27)];rfl) | (rw[hbe,oc hk hc24 (by rw[←hbe];exact hc27) hk0 (by rw[←hbe];exact hc32)];rfl) | (rw[hbe,tl hk hc24 (by rw[←hbe];exact hc27) (by rw[←hbe];first|exact fun h=>hc32 h.2|exact fun h=>hk0 h.1) (by rw[←BV _ hac2];exact hc62)];rfl) | (rw[hbe,tn hk hc24 (by rw[←hbe];exact hc27) (by rw[←hbe];first|exact fun h=>hc32 h.2|exact fun h=>hk0 h.1) (by rw[←BV _ hac2];exact hc62) (by rw[←x4];exact hc64)];(rw[show ((18446744073709551615 - bF (am x) (r.take k):Nat):Int) - 18446744073709551616= -1 - (bF (am x) (r.take k):Int) by omega];try rfl)) | (rw[hbe,tp hk hc24 (by rw[←hbe];exact hc27) (by rw[←hbe];first|exact fun h=>hc32 h.2|exact fun h=>hk0 h.1) (by rw[←BV _ hac2];exact hc62) (by rw[←x4];exact hc64)];rfl))):p:=e
theorem YR {gl:Nat→C}{M:Nat}{pu:Nat→List C→Option C}(hcx:CxOK (ax gl M pu))(b:List UInt8)(hb:b.length< 9223372036854775807):FC Tryd.prog gl 105 [sl bC .no b] [] (.tup [.val (.int .i64 (ab b).1),.val (nI (ab b).2.1),.val (nI (ab b).2.2)]) []:=by
 replace hcx:=hcx.reN (M:=71);refine aH (cx:=ax gl 71 pu) (rs:=[.tmp 2,.tmp 3,.tmp 4]) rfl Tryd.func105 rfl rfl rfl (by simp only[List.length_cons,List.length_nil];decide) (by simp only[go_sem]) ?_;simp only[bj,go_sem];have ⟨hk0,hy,hb1⟩:=ia;refine Tr.w hcx [] _ [] rfl rfl rfl ?_ bD;refine aa fun K1 hK1=>?_;refine Tr.w hcx [] _ [] rfl rfl rfl ?_ bD;refine af rfl (fun hc12=>?_) (fun hc12=>?_)
 ·
  obtain rfl:b= []:=List.length_eq_zero_iff.1 hc12;refine Tr.w hcx [] _ [] rfl rfl rfl ?_ bD;exact Tr.ret gS
 obtain ⟨x,r,hbe⟩:∃x r,b=x::r:=by
  cases b with
  |nil=>exact absurd rfl hc12
  |cons x r=>exact ⟨x,r,rfl⟩
 have hge:=z8 x;have hlt:=(x ^^^ am x).toNat_lt;obtain ⟨k,hk⟩:∃k,j8 x=k:=⟨_,rfl⟩;have hk2: (x ^^^ am x).toNat - 128=k:=hk;have hlen:b.length=r.length+1:=by rw[hbe];rfl
 have hx0:gt b 0=x:=by rw[hbe];rfl
 have hr:b.drop 1=r:=by rw[hbe];rfl
 refine Tr.skip ?_;refine hK1 _ ?_;refine Tr.w hcx [] _ [] rfl rfl rfl ?_ bD;refine qL (α:=Unit) (fun a=>[(0,?v0_1),(5,.val (w8 (am x)))]) (fun a=>[]) (fun a=>True) ?ja_1 ?jb_1
 case ja_1=>
  have hy:= @hx0;refine Tr.w hcx [] _ [] rfl rfl rfl ?_ bD;refine af rfl (fun hc16=>?_) (fun hc16=>?_)
  ·
   have hy:=True.intro;refine Tr.v hcx [] _ [] rfl rfl rfl ?_ bD;refine ⟨(),tI,?_,rfl⟩
   (simp only[aX,aK,↓aT,↓reduceIte,Nat.reduceEqDiff,aE,aM,aF,aN,aO,and_true,true_and];all_goals (repeat' first|exact CLe.refl _|exact True.intro| (refine ay ?_;first|rfl| (simp only[List.take_zero];done)) |exact aV (by omega) |exact aB (by omega) |exact aJ (by omega) |exact aP (by omega) |with_reducible apply And.intro))
   all_goals (refine iU ?_;show _=w8 (if x< UInt8.ofNat 128 then UInt8.ofNat 255 else UInt8.ofNat 0);first|rw[if_pos hc16] |rw[if_neg hc16])
  refine Tr.skip ?_;refine ⟨(),tI,?_,rfl⟩
  (simp only[aX,aK,↓aT,↓reduceIte,Nat.reduceEqDiff,aE,aM,aF,aN,aO,and_true,true_and];all_goals (repeat' first|exact CLe.refl _|exact True.intro| (refine ay ?_;first|rfl| (simp only[List.take_zero];done)) |exact aV (by omega) |exact aB (by omega) |exact aJ (by omega) |exact aP (by omega) |with_reducible apply And.intro))
  all_goals (refine iU ?_;show _=w8 (if x< UInt8.ofNat 128 then UInt8.ofNat 255 else UInt8.ofNat 0);first|rw[if_pos hc16] |rw[if_neg hc16])
 rintro a ha;have hy:=And.intro @hx0 @hk2;refine Tr.w hcx [1000023] _ [] rfl rfl rfl ?_ bD;refine aa fun K2 hK2=>?_;refine Tr.blk ?_;have hy:=True.intro;refine Tr.w hcx [1000026] _ [] rfl rfl rfl ?_ bD;refine af rfl (fun hc24=>?_) (fun hc24=>?_)
 ·
  refine Tr.w hcx [] _ [] rfl rfl rfl ?_ bD;exact Tr.ret gS
 refine Tr.w hcx [1000031] _ [] rfl rfl rfl ?_ bD;refine af rfl (fun hc27=>?_) (fun hc27=>?_)
 ·
  refine Tr.w hcx [] _ [] rfl rfl rfl ?_ bD;exact Tr.ret gS
 by_cases hk0:0< k
 ·
  refine Tr.w hcx [1000042] [some 33,some 34,some 35,some 36,some 37,some 38,some 39,some 40,some 41,some 42,some 32] [] rfl rfl rfl ?_ bD;refine Tr.k [0,5,6,32] ?_;refine af rfl (fun hc32=>?_) (fun hc32=>?_)
  ·
   refine Tr.w hcx [] _ [] rfl rfl rfl ?_ bD;exact Tr.ret gS
  refine Tr.skip ?_;refine hK2 _ ?_;refine Tr.w hcx [] _ [] rfl rfl rfl ?_ bD;refine aa fun K3 hK3=>?_;have hy:= @hr;refine Tr.w hcx [] _ [] rfl rfl rfl ?_ bD;refine Tr.k [5,6,7,46,47,48] ?_;refine Tr.blk ?_;refine ao (α:=Nat) (fun a=>[(5,?v5_2),(6,?v6_2),(7,.val (nU (bF (am x) ((r.take k).take a)))),(46,?v46_2),(47,?v47_2),(48,.val (nI a))]) (fun a=>?h_2) (fun a=>a≤(r.take k).length) (fun a=>(r.take k).length - a) (0) ?_ ?le_2 ?hh_2 ?bd_2
  case hh_2=>exact rfl
  case le_2=>exact LT
  . omega
  rintro i hi;have hcl:=(gt (r.take k) i ^^^ am x).toNat_lt;have hkl: (r.take k).length=k:=by rw[List.length_take];omega
  have hac:=lN (am x) ((r.take k).take i);rw[List.length_take,Nat.min_eq_left hi] at hac;have hp8:256 ^ i≤256 ^ 8:=Nat.pow_le_pow_right (by decide) (by omega);have hac2:bF (am x) ((r.take k).take i) < 18446744073709551616:=Nat.lt_of_lt_of_le hac (by simpa using hp8);have hy:=True.intro;refine Tr.w hcx [] _ [] rfl rfl rfl ?_ bD;refine aa fun K4 hK4=>?_;refine af rfl (fun hc49=>?_) (fun hc49=>?_)
  ·
   refine Tr.skip ?_;refine hK4 _ ?_;refine aa fun K5 hK5=>?_;refine Tr.blk ?_;refine Tr.w hcx [1000051] _ [] rfl rfl rfl ?_ bD;refine Tr.v hcx [1000058] _ [] rfl rfl rfl ?_ bD;refine hK5 _ ?_;refine Tr.v hcx [] _ [] rfl rfl rfl ?_ bD;refine ⟨i+1,⟨by omega,O1⟩,?_,rfl⟩
   (simp only[aX,aK,↓aT,↓reduceIte,Nat.reduceEqDiff,aE,aM,aF,aN,aO,and_true,true_and];all_goals (repeat' first|exact CLe.refl _|exact True.intro| (refine ay ?_;first|rfl| (simp only[List.take_zero];done)) |exact aV (by omega) |exact aB (by omega) |exact aJ (by omega) |exact aP (by omega) |with_reducible apply And.intro))
   all_goals (exact iU (congrArg nU (x5 (am x) (r.take k) i hc49 (by omega))))
  obtain rfl:i= (r.take k).length:=by omega
  rw[List.take_length] at*;refine Tr.exit ?_;refine hK3 _ ?_;refine aa fun K6 hK6=>?_;refine Tr.w hcx [] _ [] rfl rfl rfl ?_ bD;refine af rfl (fun hc62=>?_) (fun hc62=>?_)
  ·
   refine Tr.w hcx [] _ [] rfl rfl rfl ?_ bD;exact Tr.ret gS
  refine Tr.skip ?_;refine hK6 _ ?_;refine aa fun K7 hK7=>?_;refine Tr.w hcx [] _ [] rfl rfl rfl ?_ bD;refine af rfl (fun hc64=>?_) (fun hc64=>?_)
  ·
   refine Tr.v hcx [1000066] _ [] rfl rfl rfl ?_ bD;refine hK7 _ ?_;refine Tr.w hcx [1000068,1000070] _ [] rfl rfl rfl ?_ bD;exact Tr.ret gS
  refine Tr.skip ?_;refine hK7 _ ?_;refine Tr.w hcx [1000068,1000070] _ [] rfl rfl rfl ?_ bD;exact Tr.ret gS
 refine Tr.w hcx [1000042] [some 33,some 34,some 35,some 36,some 37,some 38,some 39,some 40,some 41,some 42,some 32] [] rfl rfl rfl ?_ bD;refine Tr.k [0,5,6,32] ?_;refine aq rfl ?_;refine Tr.skip ?_;refine hK2 _ ?_;refine Tr.w hcx [] _ [] rfl rfl rfl ?_ bD;refine aa fun K8 hK8=>?_;have hy:= @hr;refine Tr.w hcx [] _ [] rfl rfl rfl ?_ bD;refine Tr.k [5,6,7,46,47,48] ?_;refine Tr.blk ?_;refine ao (α:=Nat) (fun a=>[(5,?v5_3),(6,?v6_3),(7,.val (nU (bF (am x) ((r.take k).take a)))),(46,?v46_3),(47,?v47_3),(48,.val (nI a))]) (fun a=>?h_3) (fun a=>a≤(r.take k).length) (fun a=>(r.take k).length - a) (0) ?_ ?le_3 ?hh_3 ?bd_3
 case hh_3=>exact rfl
 case le_3=>exact LT
 . omega
 rintro i hi;have hcl:=(gt (r.take k) i ^^^ am x).toNat_lt;have hkl: (r.take k).length=k:=by rw[List.length_take];omega
 have hac:=lN (am x) ((r.take k).take i);rw[List.length_take,Nat.min_eq_left hi] at hac;have hp8:256 ^ i≤256 ^ 8:=Nat.pow_le_pow_right (by decide) (by omega);have hac2:bF (am x) ((r.take k).take i) < 18446744073709551616:=Nat.lt_of_lt_of_le hac (by simpa using hp8);have hy:=True.intro;refine Tr.w hcx [] _ [] rfl rfl rfl ?_ bD;refine aa fun K9 hK9=>?_;refine af rfl (fun hc49=>?_) (fun hc49=>?_)
 ·
  refine Tr.skip ?_;refine hK9 _ ?_;refine aa fun K10 hK10=>?_;refine Tr.blk ?_;refine Tr.w hcx [1000051] _ [] rfl rfl rfl ?_ bD;refine Tr.v hcx [1000058] _ [] rfl rfl rfl ?_ bD;refine hK10 _ ?_;refine Tr.v hcx [] _ [] rfl rfl rfl ?_ bD;refine ⟨i+1,⟨by omega,O1⟩,?_,rfl⟩
  (simp only[aX,aK,↓aT,↓reduceIte,Nat.reduceEqDiff,aE,aM,aF,aN,aO,and_true,true_and];all_goals (repeat' first|exact CLe.refl _|exact True.intro| (refine ay ?_;first|rfl| (simp only[List.take_zero];done)) |exact aV (by omega) |exact aB (by omega) |exact aJ (by omega) |exact aP (by omega) |with_reducible apply And.intro))
  all_goals (exact iU (congrArg nU (x5 (am x) (r.take k) i hc49 (by omega))))
 obtain rfl:i= (r.take k).length:=by omega
 rw[List.take_length] at*;refine Tr.exit ?_;refine hK8 _ ?_;refine aa fun K11 hK11=>?_;refine Tr.w hcx [] _ [] rfl rfl rfl ?_ bD;refine af rfl (fun hc62=>?_) (fun hc62=>?_)
 ·
  refine Tr.w hcx [] _ [] rfl rfl rfl ?_ bD;exact Tr.ret gS
 refine Tr.skip ?_;refine hK11 _ ?_;refine aa fun K12 hK12=>?_;refine Tr.w hcx [] _ [] rfl rfl rfl ?_ bD;refine af rfl (fun hc64=>?_) (fun hc64=>?_)
 ·
  refine Tr.v hcx [1000066] _ [] rfl rfl rfl ?_ bD;refine hK12 _ ?_;refine Tr.w hcx [1000068,1000070] _ [] rfl rfl rfl ?_ bD;exact Tr.ret gS
 refine Tr.skip ?_;refine hK12 _ ?_;refine Tr.w hcx [1000068,1000070] _ [] rfl rfl rfl ?_ bD;exact Tr.ret gS
theorem bX {p:Prop}(e:p:=by intro KZ hZ;simp -implicitDefEqProofs (disch:=first|omega| (simp only[go_sem,lA,lD,lT,hb1] <;>omega) |decide) only[go_sem,↓reduceIte,Nat.reduceEqDiff,reduceCtorEq,Nat.reduceLT,Nat.reduceBEq,Nat.reduceAdd,h84,h84n,h45,h119,h136,hy];exact hZ):p:=e
theorem Ae {p:Prop}(e:p:=by intro KZ hZ;simp -implicitDefEqProofs (disch:=first|omega| (simp only[go_sem,lA,lD,lT,hb1] <;>omega) |decide) only[go_sem,↓reduceIte,Nat.reduceEqDiff,reduceCtorEq,Nat.reduceLT,Nat.reduceBEq,Nat.reduceAdd,h84,h84n,h45,h119,h136,hy];refine And.intro ?_ hZ;exact rfl):p:=e
theorem i3 {p:Prop}(e:p:=by simp -implicitDefEqProofs (disch:=first|omega| (simp only[go_sem,lA,lD,lT,hb1] <;>omega) |decide) only[go_sem,↓reduceIte,Nat.reduceEqDiff,reduceCtorEq];all_goals (first|rfl| (rw[rg1 hbe hk (by omega)];rfl) | (rw[rg2 hbe hk (by omega) hc34];rfl) | (rw[rg3 hbe hk h8 hc34 i hc37 hc50];rfl) | (rw[acl hbe hk h8 hc34 hc57 hc67];rfl) | (rw[acm hbe hk h8 hc34 hc57 hc67];rfl) | (rw[rg5 hbe hk h8 hc34 hc57 hac (Classical.not_not.1 hc67)];try rfl) | (rw[rg6 hbe hk h8 hc34 hc57 hac (Classical.not_not.1 hc67)];try rfl))):p:=e
theorem YS {gl:Nat→C}{M:Nat}{pu:Nat→List C→Option C}(hcx:CxOK (ax gl M pu))(h84:∀n:Int,-9223372036854775808≤n∧n≤9223372036854775807→pu 84 [.val (.int .i64 n)] =some (sl bC (.own 1) (bu n)))(h45:∀x y:List UInt8,x.length< 9223372036854775807→pu 45 [sl bC .no x,sl bC .no y] =some (.val (.bool (decide (x=y)))))(b:List UInt8)(hb:b.length< 9223372036854775807):FC Tryd.prog gl 116 [sl bC .no b] [] (.tup [.val (.int .i64 (ab b).1),.val (nI (ab b).2.1),.val (nI (ab b).2.2)]) []:=by
 replace hcx:=hcx.reN (M:=71);refine aH (cx:=ax gl 71 pu) (rs:=[.tmp 2,.tmp 3,.tmp 4]) rfl Tryd.func116 rfl rfl rfl (by simp only[List.length_cons,List.length_nil];decide) (by simp only[go_sem]) ?_;simp only[bj,go_sem];have ⟨h119,h136,hy,hb1⟩:=jd;have h84n:∀m:Nat,m< 9223372036854775808→pu 84 [.val (nI m)] =some (sl bC (.own 1) (bu m)):=fun m h=>h84 m (by omega);refine Tr.w hcx [] _ [] rfl rfl rfl ?_ bX;refine aa fun K1 hK1=>?_;refine Tr.w hcx [] _ [] rfl rfl rfl ?_ bX;refine af rfl (fun hc13=>?_) (fun hc13=>?_)
 ·
  obtain rfl:b= []:=List.length_eq_zero_iff.1 hc13;refine Tr.w hcx [] _ [] rfl rfl rfl ?_ bX;exact Tr.ret i3
 obtain ⟨x,r,hbe⟩:∃x r,b=x::r:=by
  cases b with
  |nil=>exact absurd rfl hc13
  |cons x r=>exact ⟨x,r,rfl⟩
 obtain ⟨k,hk⟩:∃k,j8 x=k:=⟨_,rfl⟩;have hkc:=E3 x;rw[hk] at hkc;have hlen:b.length=r.length+1:=by rw[hbe];rfl
 have hx0:gt b 0=x:=by rw[hbe];rfl
 have hx256:=x.toNat_lt;refine Tr.skip ?_;refine hK1 _ ?_;have hy:= @hx0;refine Tr.w hcx [1000017] _ [] rfl rfl rfl ?_ bX;refine aa fun K2 hK2=>?_;by_cases h119:x.toNat< 119
 ·
  have hy:=True.intro;refine Tr.w hcx [] [some 18,some 19,some 20,some 21,some 22,some 23] [] rfl rfl rfl ?_ bX;refine aG rfl ?_;refine Tr.w hcx [] _ [] rfl rfl rfl ?_ bX;exact Tr.ret i3
 by_cases h136:136< x.toNat
 ·
  have hy:=True.intro;refine Tr.w hcx [] [some 18,some 19,some 20,some 21,some 22,some 23] [] rfl rfl rfl ?_ bX;refine aG rfl ?_;refine Tr.w hcx [] _ [] rfl rfl rfl ?_ bX;exact Tr.ret i3
 have hy:=True.intro;refine Tr.w hcx [] [some 18,some 19,some 20,some 21,some 22,some 23] [] rfl rfl rfl ?_ bX;refine aq rfl ?_;refine Tr.skip ?_;refine hK2 _ ?_;have hy:= @mg;refine Tr.w hcx [1000025] _ [] rfl rfl rfl ?_ bX;refine qL (α:=Unit) (fun a=>[(0,?v0_1),(5,?v5_1),(6,.val (nI k))]) (fun a=>[]) (fun a=>True) ?ja_1 ?jb_1
 case ja_1=>
  have hy:=True.intro;refine Tr.w hcx [] _ [] rfl rfl rfl ?_ bX;refine af rfl (fun hc27=>?_) (fun hc27=>?_)
  ·
   refine Tr.v hcx [1000029] _ [] rfl rfl rfl ?_ bX;refine ⟨(),tI,?_,rfl⟩
   (simp only[aX,aK,↓aT,↓reduceIte,Nat.reduceEqDiff,aE,aM,aF,aN,aO,and_true,true_and];all_goals (repeat' first|exact CLe.refl _|exact True.intro| (refine ay ?_;first|rfl| (simp only[List.take_zero];done)) |exact aV (by omega) |exact aB (by omega) |exact aJ (by omega) |exact aP (by omega) |with_reducible apply And.intro))
   all_goals (refine iU (congrArg (Value.int .i64) ?_);omega)
  refine Tr.skip ?_;refine ⟨(),tI,?_,rfl⟩
  (simp only[aX,aK,↓aT,↓reduceIte,Nat.reduceEqDiff,aE,aM,aF,aN,aO,and_true,true_and];all_goals (repeat' first|exact CLe.refl _|exact True.intro| (refine ay ?_;first|rfl| (simp only[List.take_zero];done)) |exact aV (by omega) |exact aB (by omega) |exact aJ (by omega) |exact aP (by omega) |with_reducible apply And.intro))
  all_goals (refine iU (congrArg (Value.int .i64) ?_);omega)
 rintro a ha;refine aa fun K3 hK3=>?_;have hy:=True.intro;refine Tr.w hcx [] _ [] rfl rfl rfl ?_ bX;refine af rfl (fun hc34=>?_) (fun hc34=>?_)
 ·
  refine Tr.w hcx [] _ [] rfl rfl rfl ?_ bX;exact Tr.ret i3
 have h8:k≤8:=by omega
 have htk: (r.take k).take k=r.take k:=by rw[List.take_take,Nat.min_self]
 refine Tr.skip ?_;refine hK3 _ ?_;refine Tr.w hcx [] _ [] rfl rfl rfl ?_ bX;refine aa fun K4 hK4=>?_;refine Tr.w hcx [] _ [] rfl rfl rfl ?_ bX;refine Tr.k [0,5,6,7,8] ?_;refine Tr.blk ?_;refine ao (α:=Nat) (fun a=>[(0,?v0_2),(5,?v5_2),(6,?v6_2),(7,.val (nI (bF (am x) ((r.take k).take a)))),(8,.val (nI (a+1)))]) (fun a=>?h_2) (fun a=>a≤k∧bF (am x) ((r.take k).take a) < 9223372036854775808) (fun a=>k - a) (0) ?_ ?le_2 ?hh_2 ?bd_2
 case hh_2=>exact rfl
 case le_2=>exact LT
 . exact ⟨by omega,by simp[bF]⟩
 rintro i ⟨hi,hac⟩;have hcl:=(gt (r.take k) i).toNat_lt;have hcl2:=(gt (r.take k) i ^^^ am x).toNat_lt;refine aa fun K5 hK5=>?_;refine Tr.w hcx [] _ [] rfl rfl rfl ?_ bX;refine af rfl (fun hc37=>?_) (fun hc37=>?_)
 ·
  have hbi:=(Li hbe hk h8 hc34 i hc37).1;refine Tr.skip ?_;refine hK5 _ ?_;refine aa fun K6 hK6=>?_;refine Tr.blk ?_;have hy:= @hbi;refine Tr.w hcx [1000044] _ [] rfl rfl rfl ?_ bX;refine qL (α:=Unit) (fun a=>[(0,?v0_3),(5,?v5_3),(6,?v6_3),(7,?v7_3),(8,?v8_3),(9,.val (nI (gt (r.take k) i ^^^ am x).toNat))]) (fun a=>[]) (fun a=>True) ?ja_3 ?jb_3
  case ja_3=>
   have hy:=True.intro;refine Tr.w hcx [] _ [] rfl rfl rfl ?_ bX;refine af rfl (fun hc46=>?_) (fun hc46=>?_)
   ·
    refine Tr.v hcx [1000048] _ [] rfl rfl rfl ?_ bX;refine ⟨(),tI,?_,rfl⟩
    (simp only[aX,aK,↓aT,↓reduceIte,Nat.reduceEqDiff,aE,aM,aF,aN,aO,and_true,true_and];all_goals (repeat' first|exact CLe.refl _|exact True.intro| (refine ay ?_;first|rfl| (simp only[List.take_zero];done)) |exact aV (by omega) |exact aB (by omega) |exact aJ (by omega) |exact aP (by omega) |with_reducible apply And.intro))
    all_goals (refine iU (congrArg nI ?_);rw[Lh];first|rw[if_pos hc46] |rw[if_neg hc46])
   refine Tr.skip ?_;refine ⟨(),tI,?_,rfl⟩
   (simp only[aX,aK,↓aT,↓reduceIte,Nat.reduceEqDiff,aE,aM,aF,aN,aO,and_true,true_and];all_goals (repeat' first|exact CLe.refl _|exact True.intro| (refine ay ?_;first|rfl| (simp only[List.take_zero];done)) |exact aV (by omega) |exact aB (by omega) |exact aJ (by omega) |exact aP (by omega) |with_reducible apply And.intro))
   all_goals (refine iU (congrArg nI ?_);rw[Lh];first|rw[if_pos hc46] |rw[if_neg hc46])
  rintro a ha;refine aa fun K7 hK7=>?_;have hy:=True.intro;refine Tr.w hcx [] _ [] rfl rfl rfl ?_ bX;refine af rfl (fun hc50=>?_) (fun hc50=>?_)
  ·
   refine Tr.w hcx [] _ [] rfl rfl rfl ?_ bX;exact Tr.ret i3
  refine Tr.skip ?_;refine hK7 _ ?_;refine Tr.v hcx [1000054] _ [] rfl rfl rfl ?_ bX;refine hK6 _ ?_;refine Tr.v hcx [1000039] _ [] rfl rfl rfl ?_ bX;refine ⟨i+1,⟨⟨by omega,by rw[←Lj hbe hk h8 hc34 i hc37];omega⟩,O1⟩,?_,rfl⟩
  (simp only[aX,aK,↓aT,↓reduceIte,Nat.reduceEqDiff,aE,aM,aF,aN,aO,and_true,true_and];all_goals (repeat' first|exact CLe.refl _|exact True.intro| (refine ay ?_;first|rfl| (simp only[List.take_zero];done)) |exact aV (by omega) |exact aB (by omega) |exact aJ (by omega) |exact aP (by omega) |with_reducible apply And.intro))
  all_goals (exact iU (congrArg nI (Lj hbe hk h8 hc34 i hc37)))
 obtain rfl:k=i:=by omega
 rw[htk] at hac;have hw1:=gG (-1 - (bF (am x) (r.take k):Int)) (by omega);have hw2:=gG (bF (am x) (r.take k)) (by omega);refine Tr.exit ?_;refine hK4 _ ?_;have hy:= @htk;refine Tr.w hcx [1000055] _ [] rfl rfl rfl ?_ bX;refine aa fun K8 hK8=>?_;have hy:= @htk;refine Tr.w hcx [] _ [] rfl rfl rfl ?_ bX;refine af rfl (fun hc57=>?_) (fun hc57=>?_)
 ·
  have hy:= @htk;refine Tr.v hcx [1000059] _ [] rfl rfl rfl ?_ bX;refine hK8 _ ?_;refine aa fun K9 hK9=>?_;have hy:= @htk;refine cf hcx bM [] _ [] rfl rfl rfl rfl ?_ Ae;refine af rfl (fun hc67=>?_) (fun hc67=>?_)
  ·
   have hy:=True.intro;refine Tr.w hcx [] _ [] rfl rfl rfl ?_ bX;exact Tr.ret i3
  refine Tr.skip ?_;refine hK9 _ ?_;refine Tr.k [6,10] ?_;have hy:= @htk;refine Tr.w hcx [1000068,1000070] _ [] rfl rfl rfl ?_ bX;exact Tr.ret i3
 refine Tr.skip ?_;refine hK8 _ ?_;refine aa fun K10 hK10=>?_;have hy:= @htk;refine cf hcx bM [] _ [] rfl rfl rfl rfl ?_ Ae;refine af rfl (fun hc67=>?_) (fun hc67=>?_)
 ·
  have hy:=True.intro;refine Tr.w hcx [] _ [] rfl rfl rfl ?_ bX;exact Tr.ret i3
 refine Tr.skip ?_;refine hK10 _ ?_;have hy:= @htk;refine Tr.w hcx [1000068,1000070] _ [] rfl rfl rfl ?_ bX;exact Tr.ret i3
theorem OY (u:TypeDesc)(y:Nat)(a b:ID):fD (some ⟨u,3,y,[nI 0,nI 0,nI 0]⟩) 2 [(0,.agg (iD a)),(1,.agg (iD b))] =some (vp (sl iD .full [a,b])):=rfl
theorem OZ (x y:ID):eA (iD x++iD y) 0 3=some (.agg (iD x)):=rfl
theorem Lq {l:List ID} (h:l.length=2) :xq (some ⟨.struct #[Field.mk "By" 3 0 false "" "" 0,Field.mk "Seq" 3 1 false "" "" 8,Field.mk "K" 3 2 false "" "" 16],3,24,[nI 0,nI 0,nI 0]⟩) (some 0) 2 (cl iD l) =some (vp (.kp (iD (gt l 0)++iD (gt l 1)))) :=by
 rcases l with _| ⟨x,_| ⟨y,_| ⟨z,l⟩⟩⟩
 . cases h
 . cases h
 . rfl
 . simp at h
attribute [go_sem] OY OZ
theorem Fa {p:Prop}(e:p:=by intro KZ hZ;simp -implicitDefEqProofs (disch:=first|omega| (simp only[go_sem,lA,lD,lT] <;>omega) |decide) only[go_sem,↓reduceIte,Nat.reduceEqDiff,reduceCtorEq,Nat.reduceLT,Nat.reduceBEq,Nat.reduceAdd,e28,tR,hO,c1,c2,hy];with_reducible exact hZ):p:=e
theorem yd {p:Prop}(e:p:=by intro KZ hZ;simp -implicitDefEqProofs (disch:=first|omega| (simp only[go_sem,lA,lD,lT] <;>omega) |decide) only[go_sem,↓reduceIte,Nat.reduceEqDiff,reduceCtorEq,Nat.reduceLT,Nat.reduceBEq,Nat.reduceAdd,e28,tR,hO,c1,c2,hy];with_reducible refine And.intro ?_ hZ;first|exact rfl|decide):p:=e
theorem ye {p:Prop}(e:p:=by simp -implicitDefEqProofs (disch:=first|omega| (simp only[go_sem,lA,lD,lT] <;>omega) |decide) only[go_sem,↓reduceIte,Nat.reduceEqDiff,reduceCtorEq];all_goals (simp[c1,c2])):p:=e
theorem acu {gl:Nat→C}{M:Nat}{pu:Nat→List C→Option C}(hcx:CxOK (ax gl M pu))(h28:∀ (w:ah) (l:List ID),WS w→(∀x∈l,cz x)→l.length≤1000000→(∀i,i< (bm w).length→cz (gt (bm w) i).2.1)→pu 28 [.agg [sl vC .no w],sl iD .no l] =some (sl iD .no (dv (dz l) (cm w)).2))(w:ah)(a b:ID)(hw:WS w)(ha:cz a)(hb:cz b)(hid:∀i,i< (bm w).length→cz (gt (bm w) i).2.1):FC Tryd.prog gl 30 [.agg [sl vC .no w],.agg (iD a),.agg (iD b)] [] (.val (.bool (decide ((dv (dz [a,b]) (cm w)).2.length=2∧gt (dv (dz [a,b]) (cm w)).2 0=a)))) []:=by
 replace hcx:=hcx.reN (M:=23);refine aH (cx:=ax gl 23 pu) (rs:=[.tmp 6]) rfl Tryd.func30 rfl rfl rfl (by simp only[List.length_cons,List.length_nil];decide) (by simp only[go_sem]) ?_;simp only[bj,go_sem];have ⟨c1,c2,hy⟩:=ia;have e28:=h28 w [a,b] hw (by intro x hx;simp at hx;rcases hx with rfl|rfl<;>assumption) (by simp) hid;obtain ⟨O,hO⟩:∃O,(dv (dz [a,b]) (cm w)).2=O:=⟨_,rfl⟩;rw[hO];rw[hO] at e28;refine Tr.w hcx [] _ [none,none,none] rfl rfl rfl ?_ Fa;refine Tr.w hcx [1000012] _ [] rfl rfl rfl ?_ Fa;by_cases c1:O.length=2
 ·
  by_cases c2:gt O 0=a
  ·
   have x20:=Lq c1;have hy:= @x20;refine cf hcx bM [1000022] [some 13,some 14,some 15,some 16,some 17,some 18,some 19,some 20,some 21,some 22,some 6] [] rfl rfl rfl rfl ?_ yd;exact Tr.ret ye
  have x20:=Lq c1;have hy:= @x20;refine cf hcx bM [1000022] [some 13,some 14,some 15,some 16,some 17,some 18,some 19,some 20,some 21,some 22,some 6] [] rfl rfl rfl rfl ?_ yd;exact Tr.ret ye
 have ⟨x20,c2⟩:=fo;have hy:= @x20;refine cf hcx bM [1000022] [some 13,some 14,some 15,some 16,some 17,some 18,some 19,some 20,some 21,some 22,some 6] [] rfl rfl rfl rfl ?_ yd;exact Tr.ret ye
theorem id_eq (a b:ID): (a=b) = (a.1=b.1∧a.2.1=b.2.1∧a.2.2=b.2.2):=by
 obtain ⟨a1,a2,a3⟩:=a;obtain ⟨b1,b2,b3⟩:=b
 simp
theorem O0 {a b:List ID}(h:a.length=b.length)(hn:∀j,j< a.length→gt a j=gt b j):a=b:=by
 refine List.ext_getElem h fun i h1 h2=>?_;have:=hn i h1;simpa[gt,List.getD,List.getElem?_eq_getElem h1,List.getElem?_eq_getElem h2] using this
theorem tD {p:Prop}(e:p:=by intro KZ hZ;simp -implicitDefEqProofs (disch:=first|omega| (simp only[go_sem,lA,lD,lT] <;>omega) |decide) only[go_sem,↓reduceIte,Nat.reduceEqDiff,reduceCtorEq,Nat.reduceLT,Nat.reduceBEq,Nat.reduceAdd,c1,c2,hy];with_reducible exact hZ):p:=e
theorem yf {p:Prop}(e:p:=by simp -implicitDefEqProofs (disch:=first|omega| (simp only[go_sem,lA,lD,lT] <;>omega) |decide) only[go_sem,↓reduceIte,Nat.reduceEqDiff,reduceCtorEq];all_goals (simp[id_eq,c1,c2])):p:=e
theorem acv {gl:Nat→C}{M:Nat}{pu:Nat→List C→Option C}(hcx:CxOK (ax gl M pu))(a b:ID):FC Tryd.prog gl 60 [.agg (iD a),.agg (iD b)] [] (.val (.bool (decide (a=b)))) []:=by
 replace hcx:=hcx.reN (M:=24);refine aH (cx:=ax gl 24 pu) (rs:=[.tmp 4]) rfl Tryd.func60 rfl rfl rfl (by simp only[List.length_cons,List.length_nil];decide) (by simp only[go_sem]) ?_;simp only[bj,go_sem];have ⟨c1,c2,hy⟩:=ia;refine Tr.w hcx [] _ [none,none] rfl rfl rfl ?_ tD;by_cases c1:a.1=b.1
 ·
  by_cases c2:a.2.1=b.2.1
  ·
   skip;refine Tr.w hcx [1000023] [some 5,some 6,some 7,some 8,some 9,some 10,some 11,some 12,some 13,some 14,some 15,some 16,some 17,some 18,some 19,some 20,some 21,some 22,some 23,some 4] [] rfl rfl rfl ?_ tD;exact Tr.ret yf
  skip;refine Tr.w hcx [1000023] [some 5,some 6,some 7,some 8,some 9,some 10,some 11,some 12,some 13,some 14,some 15,some 16,some 17,some 18,some 19,some 20,some 21,some 22,some 23,some 4] [] rfl rfl rfl ?_ tD;exact Tr.ret yf
 have c2:=True.intro;refine Tr.w hcx [1000023] [some 5,some 6,some 7,some 8,some 9,some 10,some 11,some 12,some 13,some 14,some 15,some 16,some 17,some 18,some 19,some 20,some 21,some 22,some 23,some 4] [] rfl rfl rfl ?_ tD;exact Tr.ret yf
theorem UM (a b:aI): (a=b) = (a.1=b.1∧a.2.1=b.2.1∧a.2.2.1=b.2.2.1∧a.2.2.2.1=b.2.2.2.1∧a.2.2.2.2=b.2.2.2.2):=by
 obtain ⟨a1,a2,a3,a4,a5⟩:=a;obtain ⟨b1,b2,b3,b4,b5⟩:=b
 simp
def pA (V:bE)(a:Nat):List aI:=(V.take a).flatMap (·.2)
def pV (w:ah)(v:Nat):List aI:=(w.take v).flatMap fun V=>pA V V.length
theorem qq (V:bE)(a:Nat)(h:a< V.length):pA V (a+1) =pA V a++(gt V a).2:=by
 unfold pA;rw[←eX V a h,List.flatMap_append];simp
theorem uQ (w:ah)(v:Nat)(h:v< w.length):pV w (v+1) =pV w v++pA (gt w v) (gt w v).length:=by
 unfold pV;rw[←eX w v h,List.flatMap_append];simp
theorem O3 (v a:Nat)(l:List aI): (nf v a l).map (·.2) =l:=by
 refine List.ext_getElem (by simp[nf]) fun i h1 h2=>?_;simp[nf,gt,List.getD,List.getElem?_eq_getElem h2]
theorem Aj (v:Nat)(V:bE):∀a,a≤V.length→((List.range a).flatMap fun a=>nf v a (gt V a).2).map (·.2) =pA V a
 |0,_=>rfl
 |a+1,h=>by rw[List.range_succ,List.flatMap_append,List.map_append,Aj v V a (by omega),qq V a (by omega)];simp[O3]
theorem Ak (w:ah):∀v,v≤w.length→((List.range v).flatMap fun v=>ym v (gt w v)).map (·.2) =pV w v
 |0,_=>rfl
 |v+1,h=>by
  rw[List.range_succ,List.flatMap_append,List.map_append,Ak w v (by omega),uQ w v (by omega)];have:=Aj v (gt w v) (gt w v).length (Nat.le_refl _);simp only[List.flatMap_cons,List.flatMap_nil,List.append_nil];exact congrArg _ this
theorem qr (w:ah):cm w=pV w w.length:=Ak w _ (Nat.le_refl _)
theorem wp (w:ah)(v:Nat): (pV w v).length≤(cm w).length:=by
 rw[qr];unfold pV;rw[List.take_length]
 conv=>rhs;rw[←List.take_append_drop v w]
 rw[List.flatMap_append,List.length_append];omega
theorem Y3 (V:bE)(a:Nat): (pA V a).length≤(pA V V.length).length:=by
 unfold pA;rw[List.take_length]
 conv=>rhs;rw[←List.take_append_drop a V]
 rw[List.flatMap_append,List.length_append];omega
theorem tE (w:ah)(v a:Nat)(h:v< w.length): (pV w v).length+(pA (gt w v) a).length≤(cm w).length:=by
 have h1:=wp w (v+1);rw[uQ w v h,List.length_append] at h1;have:=Y3 (gt w v) a;omega
theorem O4 (y:Nat) (a b c:Nat) :fD (some ⟨.struct #[Field.mk "By" 3 0 false "" "" 0,Field.mk "Seq" 3 1 false "" "" 8,Field.mk "K" 3 2 false "" "" 16],3,y,[nI 0,nI 0,nI 0]⟩) 1 [(0,.agg [.val (nI a),.val (nI b),.val (nI c)])] =some (vp (sl iD .full [((a:Int),(b:Int),(c:Int))])) :=rfl
theorem O5 (y:Nat) (a b c:Int) :fD (some ⟨.struct #[Field.mk "By" 3 0 false "" "" 0,Field.mk "Seq" 3 1 false "" "" 8,Field.mk "K" 3 2 false "" "" 16],3,y,[nI 0,nI 0,nI 0]⟩) 1 [(0,.agg [.val (.int .i64 a),.val (.int .i64 b),.val (.int .i64 c)])] =some (vp (sl iD .full [(a,b,c)])) :=rfl
attribute [go_sem high] O4 O5
def formT:List Nat:=[0,0,0,1,3,0,2,1]
def manyT:List Nat:=[0,0,0,0,1,2]
def uR (l:List Int)(a i:Nat):ID:=if cu l (a+3+i) 9=8 then (-1,0,0) else (0,(cu l (a+3+i) 9:Int),0)
def nB (l:List Int)(a n:Nat):List ID:=(List.range n).map (uR l a)
theorem tF (l:List Int)(a n:Nat):nB l a (n+1) =nB l a n++[uR l a n]:=by unfold nB;rw[List.range_succ,List.map_append];rfl
theorem sj (l:List Int)(a n:Nat): (nB l a n).length=n:=by simp[nB]
def qs (l:List Int)(a:Nat):Nat→List UInt8
 |0=>iY l (a+2)
 |n+1=>qs l a n++[32,64]
theorem pn (l:List Int)(a:Nat):∀n,(qs l a n).length≤72+2*n
 |0=>(sg l (a+2)).2.1
 |n+1=>by
  have:=pn l a n;simp only[qs,List.length_append,List.length_cons,List.length_nil];omega
def jy (l:List Int)(a:Nat):Nat:=gt manyT (cu l (a+1) 6)
theorem uS (l:List Int)(a:Nat):jy l a≤2:=by
 have h:=en l (a+1) (m:=6) (by decide);have:=xY manyT (fun n=>decide (n≤2)) (by decide) _ h;simpa[jy] using this
def eI (l:List Int)(a:Nat)(id:ID):aI:=(id,((gt formT (cu l a 8):Nat):Int),((cu l (a+1) 8 / 3:Nat):Int),qs l a (jy l a),nB l a (jy l a))
theorem O6 (n:Nat)(l:List Nat)(i:Nat)(x:Nat)(r:List (Nat×C))(h:i< l.length):cO n (cl nC l) ((i,.val (nI x))::r) =cO n (cl nC (l.set i x)) r:=by
 have e:=mf (f:=nC) l i x h;rw[Nat.mul_one] at e;have e2:splice (cl nC l) i [.val (nI x)] =cl nC (l.set i x):=e;show (if [C.val (nI x)].length=1∧i+1≤(cl nC l).length then cO n (splice (cl nC l) i [.val (nI x)]) r else none) =_;rw[if_pos ⟨rfl,by rw[aD (f:=nC)];omega⟩,e2]
attribute [go_sem] O6
theorem JQ (pl:List (Nat×Nat))(x:ID)(a b c d e f g:C)(r:List (Nat×C)):BI pl (some (0,3)) (some (iD x)) [a,b,c,d,e,f,g] r=layS pl [.val (.int .i64 x.1),.val (.int .i64 x.2.1),.val (.int .i64 x.2.2),d,e,f,g] r:=rfl
attribute [go_sem high] JQ
theorem yg:sl nC .full (((((((((List.replicate 8 0).set 0 0).set 1 0).set 2 0).set 3 1).set 4 3).set 5 0).set 6 2).set 7 1) =sl nC .full formT:=rfl
theorem sk:formT.length=8:=rfl
theorem yh:sl nC .full (((((((List.replicate 6 0).set 0 0).set 1 0).set 2 0).set 3 0).set 4 1).set 5 2) =sl nC .full manyT:=rfl
theorem sm:manyT.length=6:=rfl
theorem O7 (y:Nat) (a:Int) (b c:Nat) :fD (some ⟨.struct #[Field.mk "By" 3 0 false "" "" 0,Field.mk "Seq" 3 1 false "" "" 8,Field.mk "K" 3 2 false "" "" 16],3,y,[nI 0,nI 0,nI 0]⟩) 1 [(0,.agg [.val (.int .i64 a),.val (nI b),.val (nI c)])] =some (vp (sl iD .full [(a,(b:Int),(c:Int))])) :=rfl
attribute [go_sem high] O7
theorem Fb {l:List Int}{a i:Nat}(h:cu l (a+3+i) 9=8):uR l a i= (-1,0,0):=if_pos h
theorem Fc {l:List Int}{a i:Nat}(h:¬cu l (a+3+i) 9=8):uR l a i= (0,(cu l (a+3+i) 9:Int),0):=if_neg h
theorem acw {gl:Nat→C}{M:Nat}{pu:Nat→List C→Option C}(hcx:CxOK (ax gl M pu)):FC Tryd.prog gl 67 [] [] (.agg [.val (.int .i64 (-1)),.val (nI 0),.val (nI 0)]) []:=by
 replace hcx:=hcx.reN (M:=2);refine aH (cx:=ax gl 2 pu) (rs:=[.cell 0 34]) rfl Tryd.func67 rfl rfl rfl (by simp only[List.length_cons,List.length_nil];decide) (by simp only[go_sem]) ?_;simp only[bj,go_sem];have hy:=True.intro;refine Tr.w hcx [] _ [none] rfl rfl rfl ?_ eN;refine Tr.w hcx [] _ [] rfl rfl rfl ?_ eN;exact Tr.ret La
theorem gd {p:Prop}(e:p:=by intro KZ hZ;simp -implicitDefEqProofs (maxSteps:=2000000) (disch:=first|omega| (simp only[go_sem,lA,lD,lT,sk,sm] <;>omega) |decide) only[go_sem,↓reduceIte,Nat.reduceEqDiff,reduceCtorEq,Nat.reduceLT,Nat.reduceBEq,Nat.reduceAdd,h67,e65,e66,yg,yh,hy];with_reducible exact hZ):p:=e
theorem UN {p:Prop}(e:p:=by intro KZ hZ;simp -implicitDefEqProofs (maxSteps:=2000000) (disch:=first|omega| (simp only[go_sem,lA,lD,lT,sk,sm] <;>omega) |decide) only[go_sem,↓reduceIte,Nat.reduceEqDiff,reduceCtorEq,Nat.reduceLT,Nat.reduceBEq,Nat.reduceAdd,h67,e65,e66,yg,yh,hy];with_reducible refine And.intro ?_ hZ;first|exact rfl|decide):p:=e
theorem UO {p:Prop}(e:p:=by simp -implicitDefEqProofs (disch:=first|omega| (simp only[go_sem,lA,lD,lT,sk,sm] <;>omega) |decide) only[go_sem,↓reduceIte,Nat.reduceEqDiff,reduceCtorEq];all_goals (rfl)):p:=e
theorem acx {gl:Nat→C}{M:Nat}{pu:Nat→List C→Option C}(hcx:CxOK (ax gl M pu))(h65:∀ (l:List Int) (i m:Nat),LI l→i≤1000000∧0< m∧m≤9223372036854775807→pu 65 [sl iC .no l,.val (nI i),.val (nI m)] =some (.val (nI (cu l i m))))(h66:∀ (l:List Int) (k:Nat),LI l→k≤1000→pu 66 [sl iC .no l,.val (nI k)] =some (.val (str (iY l k))))(h67:pu 67 [] =some (.agg [.val (.int .i64 (-1)),.val (nI 0),.val (nI 0)]))(l:List Int)(k:Nat)(id:ID)(hl:LI l)(hk:k≤900):FC Tryd.prog gl 21 [sl iC .no l,.val (nI k),.agg (iD id)] [] (.agg (pC (eI l k id))) []:=by
 replace hcx:=hcx.reN (M:=62);refine aH (cx:=ax gl 62 pu) (rs:=[.cell 6 37]) rfl Tryd.func21 rfl rfl rfl (by simp only[List.length_cons,List.length_nil];decide) (by simp only[go_sem]) ?_;simp only[bj,go_sem];have hy:=True.intro;have e65:=fun i m h=>h65 l i m hl h;have e66:=fun k h=>h66 l k hl h;have hA:=en l k (m:=8) (by decide);have hB:=en l (k+1) (m:=6) (by decide);have hB8:=en l (k+1) (m:=8) (by decide);have hN:=uS l k;unfold jy at hN;have hl1:=hl.1;refine Tr.w hcx [] _ [none,none] rfl rfl rfl ?_ gd;refine cf hcx bM [] _ [none] rfl rfl rfl rfl ?_ UN;refine Tr.k [0,1,6,7] ?_;refine Tr.w hcx [1000034] _ [] rfl rfl rfl ?_ gd;refine aa fun K1 hK1=>?_;refine Tr.w hcx [] _ [] rfl rfl rfl ?_ gd;refine Tr.k [0,1,6,7,8,9] ?_;refine Tr.blk ?_;refine Tr.k [0,1,6,7,8,9] ?_;refine aW hcx [1,2] ?_;refine Tr.bxc 1 6 (sl iD (.own 3) []) _ rfl rfl (ay rfl) rfl ?_;simp only[List.set_cons_succ,List.set_cons_zero];refine ao (α:=Nat) (fun a=>[(0,?v0_1),(1,?v1_1),(6,?v6_1),(7,?v7_1),(8,?v8_1),(9,.val (nI a))]) (fun a=>[some [.val (nI 0),.val (nI 0),.val (nI 0),.val (nI 0),.val (nI 0),.val (str []),.val (.slice none 0 0)],some [.val (.int .i64 id.1),.val (.int .i64 id.2.1),.val (.int .i64 id.2.2),.val (nI (gt formT (cu l k 8))),.val (nI (cu l (k+1) 8 / 3)),.val (str (qs l k a)),sl iD (.own 3) (nB l k a)]]) (fun a=>a≤gt manyT (cu l (k+1) 6)) (fun a=>gt manyT (cu l (k+1) 6) - a) (0) (Nat.zero_le _) ?le_1 ?hh_1 ?bd_1
 case hh_1=>exact rfl
 case le_1=>exact LT
 rintro i hi;have hP:=sj l k i;have hT:=pn l k i;refine aa fun K2 hK2=>?_;refine Tr.w hcx [] _ [] rfl rfl rfl ?_ gd;refine af rfl (fun hc37=>?_) (fun hc37=>?_)
 ·
  refine Tr.skip ?_;refine hK2 _ ?_;refine aa fun K3 hK3=>?_;refine Tr.blk ?_;refine Tr.w hcx [] _ [] rfl rfl rfl ?_ gd;refine Tr.w hcx [] _ [none] rfl rfl rfl ?_ gd;refine aa fun K4 hK4=>?_;refine Tr.w hcx [] _ [] rfl rfl rfl ?_ gd;refine af rfl (fun hc53=>?_) (fun hc53=>?_)
  ·
   refine Tr.v hcx [] _ [] rfl rfl rfl ?_ gd;refine hK4 _ ?_;refine Tr.k [0,1,6,7,8,9,10] ?_;refine Tr.v hcx [56] _ [] rfl rfl rfl ?_ gd;refine hK3 _ ?_;refine Tr.k [0,1,6,7,8,9] ?_;refine aW hcx [0,1] ?_;refine Tr.v hcx [1000039] _ [] rfl rfl rfl ?_ gd;exact ⟨i+1,⟨(by omega),O1⟩,LT,by first| (simp only[tF,Fb hc53];rfl) | (simp only[tF,Fc hc53];rfl)⟩
  refine Tr.skip ?_;refine hK4 _ ?_;refine Tr.k [0,1,6,7,8,9,10] ?_;refine Tr.v hcx [56] _ [] rfl rfl rfl ?_ gd;refine hK3 _ ?_;refine Tr.k [0,1,6,7,8,9] ?_;refine aW hcx [0,1] ?_;refine Tr.v hcx [1000039] _ [] rfl rfl rfl ?_ gd;exact ⟨i+1,⟨(by omega),O1⟩,LT,by first| (simp only[tF,Fb hc53];rfl) | (simp only[tF,Fc hc53];rfl)⟩
 obtain rfl:i=gt manyT (cu l (k+1) 6):=by omega
 refine Tr.exit ?_;refine hK1 _ ?_;refine Tr.w hcx [] _ [] rfl rfl rfl ?_ gd;exact Tr.ret UO
theorem O8 (u:TypeDesc)(y:Nat)(t:List UInt8)(l:List aI):fD (some ⟨u,2,y,[str [],.slice none 0 0]⟩) 1 [(0,.agg [.val (str t),sl pC .no l])] =some (vp (sl aC .full [(t,l)])):=rfl
theorem O9 (u:TypeDesc)(y:Nat)(l:bE):fD (some ⟨u,1,y,[.slice none 0 0]⟩) 1 [(0,.agg [sl aC .no l])] =some (vp (sl vC .full [l])):=rfl
theorem JR (x:aI)(n:Nat):cj (pC x) 3 [.val (nI n)] =some (pC (x.1,(n:Int),x.2.2),.val undef):=rfl
attribute [go_sem high] O8 O9 JR
def tG (p:aI)(j:Nat)(ps:List aI):aI:=if p.2.1= ((1:Nat):Int)∧(j=0∨(gt ps (j - 1)).2.1= ((2:Nat):Int)) then (p.1,((0:Nat):Int),p.2.2) else p
def jm (l:List Int)(n:Nat):Nat→List aI
 |0=>[]
 |j+1=>jm l n j++[tG (eI l (9+4*(n+j)) (((0:Nat):Int),((n+j:Nat):Int),((0:Nat):Int))) j (jm l n j)]
theorem qW (l:List Int)(n:Nat):∀j,(jm l n j).length=j
 |0=>rfl
 |j+1=>by simp[jm,qW l n j]
def ln (l:List Int)(i k n:Nat):Nat:=min (1+cu l (5+2*i+k) 3) (8 - n)
def dh (l:List Int)(i n:Nat):Nat→List dG×Nat
 |0=>([],n)
 |k+1=>((dh l i n k).1++[(iY l (3+i+k),jm l (dh l i n k).2 (ln l i k (dh l i n k).2))],(dh l i n k).2+ln l i k (dh l i n k).2)
theorem qX (l:List Int)(i n:Nat):∀k,(dh l i n k).1.length=k
 |0=>rfl
 |k+1=>by simp[dh,qX l i n k]
theorem oh (l:List Int)(i n:Nat)(h:n≤8):∀k,(dh l i n k).2≤8
 |0=>h
 |k+1=>by
  have:=oh l i n h k;simp only[dh,ln];omega
def dB (l:List Int):Nat→List bE×Nat
 |0=>([],0)
 |i+1=>((dB l i).1++[(dh l i (dB l i).2 (1+cu l (1+i) 2)).1],(dh l i (dB l i).2 (1+cu l (1+i) 2)).2)
theorem uT (l:List Int):∀i,(dB l i).1.length=i
 |0=>rfl
 |i+1=>by simp[dB,uT l i]
theorem ol (l:List Int):∀i,(dB l i).2≤8
 |0=>Nat.zero_le _
 |i+1=>oh l i _ (ol l i) _
def lx (l:List Int):ah:=(dB l (1+cu l 0 4 / 3)).1
theorem Lr {p:aI}{j:Nat}{ps:List aI}(h:p.2.1= ((1:Nat):Int))(h2:j=0∨(gt ps (j - 1)).2.1= ((2:Nat):Int)):tG p j ps= (p.1,((0:Nat):Int),p.2.2):=if_pos ⟨h,h2⟩
theorem Ls {p:aI}{j:Nat}{ps:List aI}(h:¬ (p.2.1= ((1:Nat):Int)∧(j=0∨(gt ps (j - 1)).2.1= ((2:Nat):Int)))):tG p j ps=p:=if_neg h
theorem acy (n:Nat):max n 0=n:=Nat.max_eq_left (Nat.zero_le n)
theorem bK {p:Prop}(e:p:=by intro KZ hZ;simp -implicitDefEqProofs (maxSteps:=2000000) (disch:=first|omega| (simp only[go_sem,lA,lD,lT,hx1,hx2,hx3,hx4,hx5,hx6] <;>omega) |decide) only[go_sem,↓reduceIte,Nat.reduceEqDiff,reduceCtorEq,Nat.reduceLT,Nat.reduceBEq,Nat.reduceAdd,e65,e66,e21,hPx,acy,c4,c5,c1,c2,c3,hy];with_reducible exact hZ):p:=e
theorem UP {p:Prop}(e:p:=by simp -implicitDefEqProofs (disch:=first|omega| (simp only[go_sem,lA,lD,lT,hx1,hx2,hx3,hx4,hx5,hx6] <;>omega) |decide) only[go_sem,↓reduceIte,Nat.reduceEqDiff,reduceCtorEq];all_goals (rfl)):p:=e
theorem acz {gl:Nat→C}{M:Nat}{pu:Nat→List C→Option C}(hcx:CxOK (ax gl M pu))(h65:∀ (l:List Int) (i m:Nat),LI l→i≤1000000∧0< m∧m≤9223372036854775807→pu 65 [sl iC .no l,.val (nI i),.val (nI m)] =some (.val (nI (cu l i m))))(h66:∀ (l:List Int) (k:Nat),LI l→k≤1000→pu 66 [sl iC .no l,.val (nI k)] =some (.val (str (iY l k))))(h21:∀ (l:List Int) (k:Nat) (id:ID),LI l→k≤900→pu 21 [sl iC .no l,.val (nI k),.agg (iD id)] =some (.agg (pC (eI l k id))))(l:List Int)(hl:LI l):FC Tryd.prog gl 18 [sl iC .no l] [] (.agg [sl vC .no (lx l)]) []:=by
 replace hcx:=hcx.reN (M:=104);refine aH (cx:=ax gl 104 pu) (rs:=[.cell 2 29]) rfl Tryd.func18 rfl rfl rfl (by simp only[List.length_cons,List.length_nil];decide) (by simp only[go_sem]) ?_;simp only[bj,go_sem];have ⟨c4,c5,c1,c2,c3,hy⟩:=wM;have e65:=fun i m h=>h65 l i m hl h;have e66:=fun k h=>h66 l k hl h;have e21:∀k n:Nat,k≤900→pu 21 [sl iC .no l,.val (nI k),.agg [.val (nI 0),.val (nI n),.val (nI 0)]] =some (.agg (pC (eI l k (((0:Nat):Int),(n:Int),((0:Nat):Int))))):=fun k n h=>h21 l k (((0:Nat):Int),(n:Int),((0:Nat):Int)) hl h;have hA:=en l 0 (m:=4) (by decide);have ⟨hx1,hx2,hx3,hx4,hx5,hx6,hPx⟩:=AY;refine Tr.w hcx [] _ [none] rfl rfl rfl ?_ bK;refine Tr.w hcx [] _ [none] rfl rfl rfl ?_ bK;refine Tr.w hcx [] _ [] rfl rfl rfl ?_ bK;refine Tr.w hcx [1000017] _ [] rfl rfl rfl ?_ bK;refine aa fun K1 hK1=>?_;refine Tr.w hcx [] _ [] rfl rfl rfl ?_ bK;refine Tr.k [0,2,3,4,5,6] ?_;refine Tr.blk ?_;refine Tr.bxc 1 0 (sl vC (.own 1) []) _ rfl rfl (ay rfl) rfl ?_;simp only[List.set_cons_succ,List.set_cons_zero];refine ao (α:=Nat) (fun a=>[(0,?v0_1),(2,?v2_1),(3,?v3_1),(4,.val (nI (dB l a).2)),(5,?v5_1),(6,.val (nI a))]) (fun a=>[some [.val (.slice none 0 0)],some [sl vC (.own 1) (dB l a).1]]) (fun a=>a≤1+cu l 0 4 / 3) (fun a=>1+cu l 0 4 / 3 - a) (0) (Nat.zero_le _) ?le_1 ?hh_1 ?bd_1
 case hh_1=>exact rfl
 case le_1=>exact LT
 rintro i hi;have hx1:=uT l i;have hx2:=ol l i;have hB:=en l (1+i) (m:=2) (by decide);refine aa fun K2 hK2=>?_;refine Tr.w hcx [] _ [] rfl rfl rfl ?_ bK;refine af rfl (fun hc20=>?_) (fun hc20=>?_)
 ·
  refine Tr.skip ?_;refine hK2 _ ?_;refine aa fun K3 hK3=>?_;refine Tr.blk ?_;refine Tr.w hcx [] _ [none] rfl rfl rfl ?_ bK;refine Tr.w hcx [1000027] _ [] rfl rfl rfl ?_ bK;refine aa fun K4 hK4=>?_;refine Tr.w hcx [] _ [] rfl rfl rfl ?_ bK;refine Tr.k [0,2,3,4,5,6,7,8,9] ?_;refine Tr.blk ?_;refine Tr.bxc 2 0 (sl aC (.own 2) []) _ rfl rfl (ay rfl) rfl ?_;simp only[List.set_cons_succ,List.set_cons_zero];refine ao (α:=Nat) (fun a=>[(0,?v0_2),(2,?v2_2),(3,?v3_2),(4,.val (nI (dh l i (dB l i).2 a).2)),(5,?v5_2),(6,?v6_2),(7,?v7_2),(8,?v8_2),(9,.val (nI a))]) (fun a=>[some [.val (.slice none 0 0)],some [sl vC (.own 1) (dB l i).1],some [sl aC (.own 2) (dh l i (dB l i).2 a).1]]) (fun a=>a≤1+cu l (1+i) 2) (fun a=>1+cu l (1+i) 2 - a) (0) (Nat.zero_le _) ?le_2 ?hh_2 ?bd_2
  case hh_2=>exact rfl
  case le_2=>exact LT
  rintro k hk;have hx3:=qX l i (dB l i).2 k;have hx4:=oh l i (dB l i).2 hx2 k;have hC:=en l (5+2*i+k) (m:=3) (by decide);refine aa fun K5 hK5=>?_;refine Tr.w hcx [] _ [] rfl rfl rfl ?_ bK;refine af rfl (fun hc30=>?_) (fun hc30=>?_)
  ·
   refine Tr.skip ?_;refine hK5 _ ?_;refine aa fun K6 hK6=>?_;refine Tr.blk ?_;refine Tr.w hcx [] _ [none] rfl rfl rfl ?_ bK;refine Tr.k [0,2,3,4,5,6,7,8,9,10] ?_;refine Tr.w hcx [1000047] _ [] rfl rfl rfl ?_ bK;refine aa fun K7 hK7=>?_;refine Tr.w hcx [] _ [] rfl rfl rfl ?_ bK;refine Tr.k [0,2,3,4,5,6,7,8,9,10,11,12] ?_;refine Tr.blk ?_;have hN:ln l i k (dh l i (dB l i).2 k).2=min (1+cu l (5+2*i+k) 3) (8 - (dh l i (dB l i).2 k).2):=rfl;refine Tr.bxc 3 1 (sl pC (.own 7) []) _ rfl rfl (ay rfl) rfl ?_;simp only[List.set_cons_succ,List.set_cons_zero];refine ao (α:=Nat) (fun a=>[(0,?v0_3),(2,?v2_3),(3,?v3_3),(4,.val (nI ((dh l i (dB l i).2 k).2+a))),(5,?v5_3),(6,?v6_3),(7,?v7_3),(8,?v8_3),(9,?v9_3),(10,?v10_3),(11,?v11_3),(12,.val (nI a))]) (fun a=>[some [.val (.slice none 0 0)],some [sl vC (.own 1) (dB l i).1],some [sl aC (.own 2) (dh l i (dB l i).2 k).1],some [.val (str (iY l (3+i+k))),sl pC (.own 7) (jm l (dh l i (dB l i).2 k).2 a)]]) (fun a=>a≤ln l i k (dh l i (dB l i).2 k).2) (fun a=>ln l i k (dh l i (dB l i).2 k).2 - a) (0) (Nat.zero_le _) ?le_3 ?hh_3 ?bd_3
   case hh_3=>exact rfl
   case le_3=>exact LT
   rintro j hj;have hx5:=qW l (dh l i (dB l i).2 k).2 j;obtain ⟨n,hn⟩:∃n,(dh l i (dB l i).2 k).2=n:=⟨_,rfl⟩;refine aa fun K8 hK8=>?_;by_cases c4:j< 1+cu l (5+2*i+k) 3
   ·
    by_cases c5: (dh l i (dB l i).2 k).2+j< 8
    ·
     skip;refine Tr.w hcx [] [some 48,some 49,some 50,some 51,some 52,some 53,some 54] [] rfl rfl rfl ?_ bK;refine aG rfl ?_;refine Tr.skip ?_;refine hK8 _ ?_;refine Tr.k [0,2,3,4,5,6,7,8,9,10,11,12] ?_;refine aa fun K9 hK9=>?_;refine Tr.blk ?_;obtain ⟨P,hPP⟩:∃P,eI l (9+4*((dh l i (dB l i).2 k).2+j)) (((0:Nat):Int),(((dh l i (dB l i).2 k).2+j:Nat):Int),((0:Nat):Int)) =P:=⟨_,rfl⟩;have hPx:=hPP;refine Tr.w hcx [] _ [none] rfl rfl rfl ?_ bK;refine Tr.k [0,2,3,4,5,6,7,8,9,10,11,12,13] ?_;refine aa fun K10 hK10=>?_;by_cases c1:P.2.1= ((1:Nat):Int)
     ·
      have c1o:=c1;replace c1:=eq_true c1;by_cases c2:j=0
      ·
       have c2o:=c2;replace c2:=eq_true c2;refine Tr.w hcx [] [some 64,some 65,some 66,some 67,some 68,some 69,some 70,some 71,some 72,some 73,some 74,some 75,some 76,some 77,some 78,some 79,some 80,some 81] [] rfl rfl rfl ?_ bK;refine Tr.k [0,2,3,4,5,6,7,8,9,10,11,12,13,81] ?_;refine aG rfl ?_;refine Tr.v hcx [] _ [] rfl rfl rfl ?_ bK;refine hK10 _ ?_;refine Tr.w hcx [84] _ [] rfl rfl rfl ?_ bK;refine Tr.v hcx [1000090] _ [] rfl rfl rfl ?_ bK;refine hK9 _ ?_;refine Tr.k [0,2,3,4,5,6,7,8,9,10,11,12] ?_;refine Tr.k [0,2,3,4,5,6,7,8,9,10,11,12] ?_;refine aW hcx [0,1,2,3] ?_;refine Tr.v hcx [1000056] _ [] rfl rfl rfl ?_ bK;exact ⟨j+1,⟨(by omega),O1⟩,LT,by simp only[jm,hPP];rw[Lr c1o (by first|exact .inl c2o|exact .inr c3o)] <;>rfl⟩
      have c2o:=c2;replace c2:=eq_false c2;by_cases c3: (gt (jm l (dh l i (dB l i).2 k).2 j) (j - 1)).2.1= ((2:Nat):Int)
      ·
       have c3o:=c3;replace c3:=eq_true c3;refine Tr.w hcx [] [some 64,some 65,some 66,some 67,some 68,some 69,some 70,some 71,some 72,some 73,some 74,some 75,some 76,some 77,some 78,some 79,some 80,some 81] [] rfl rfl rfl ?_ bK;refine Tr.k [0,2,3,4,5,6,7,8,9,10,11,12,13,81] ?_;refine aG rfl ?_;refine Tr.v hcx [] _ [] rfl rfl rfl ?_ bK;refine hK10 _ ?_;refine Tr.w hcx [84] _ [] rfl rfl rfl ?_ bK;refine Tr.v hcx [1000090] _ [] rfl rfl rfl ?_ bK;refine hK9 _ ?_;refine Tr.k [0,2,3,4,5,6,7,8,9,10,11,12] ?_;refine Tr.k [0,2,3,4,5,6,7,8,9,10,11,12] ?_;refine aW hcx [0,1,2,3] ?_;refine Tr.v hcx [1000056] _ [] rfl rfl rfl ?_ bK;exact ⟨j+1,⟨(by omega),O1⟩,LT,by simp only[jm,hPP];rw[Lr c1o (by first|exact .inl c2o|exact .inr c3o)] <;>rfl⟩
      have c3o:=c3;replace c3:=eq_false c3;refine Tr.w hcx [] [some 64,some 65,some 66,some 67,some 68,some 69,some 70,some 71,some 72,some 73,some 74,some 75,some 76,some 77,some 78,some 79,some 80,some 81] [] rfl rfl rfl ?_ bK;refine Tr.k [0,2,3,4,5,6,7,8,9,10,11,12,13,81] ?_;refine aq rfl ?_;refine Tr.skip ?_;refine hK10 _ ?_;refine Tr.w hcx [84] _ [] rfl rfl rfl ?_ bK;refine Tr.v hcx [1000090] _ [] rfl rfl rfl ?_ bK;refine hK9 _ ?_;refine Tr.k [0,2,3,4,5,6,7,8,9,10,11,12] ?_;refine aW hcx [0,1,2,3] ?_;refine Tr.v hcx [1000056] _ [] rfl rfl rfl ?_ bK;exact ⟨j+1,⟨(by omega),O1⟩,LT,by simp only[jm,hPP];rw[Ls (p:=P) (j:=j) (by rintro ⟨q1,q2⟩;first|exact c1o q1|exact q2.elim c2o c3o)] <;>rfl⟩
     have c1o:=c1;replace c1:=eq_false c1;refine Tr.w hcx [] [some 64,some 65,some 66,some 67,some 68,some 69,some 70,some 71,some 72,some 73,some 74,some 75,some 76,some 77,some 78,some 79,some 80,some 81] [] rfl rfl rfl ?_ bK;refine Tr.k [0,2,3,4,5,6,7,8,9,10,11,12,13,81] ?_;refine aq rfl ?_;refine Tr.skip ?_;refine hK10 _ ?_;refine Tr.w hcx [84] _ [] rfl rfl rfl ?_ bK;refine Tr.v hcx [1000090] _ [] rfl rfl rfl ?_ bK;refine hK9 _ ?_;refine Tr.k [0,2,3,4,5,6,7,8,9,10,11,12] ?_;refine aW hcx [0,1,2,3] ?_;refine Tr.v hcx [1000056] _ [] rfl rfl rfl ?_ bK;exact ⟨j+1,⟨(by omega),O1⟩,LT,by simp only[jm,hPP];rw[Ls (p:=P) (j:=j) (by rintro ⟨q1,q2⟩;first|exact c1o q1|exact q2.elim c2o c3o)] <;>rfl⟩
    skip;refine Tr.w hcx [] [some 48,some 49,some 50,some 51,some 52,some 53,some 54] [] rfl rfl rfl ?_ bK;refine aq rfl ?_;refine Tr.exit ?_;refine hK7 _ ?_;obtain rfl:j=ln l i k (dh l i (dB l i).2 k).2:=by omega
    refine Tr.v hcx [92] _ [] rfl rfl rfl ?_ bK;refine hK6 _ ?_;refine Tr.k [0,2,3,4,5,6,7,8,9] ?_;refine Tr.k [0,2,3,4,5,6,7,8,9] ?_;refine aW hcx [0,1,2] ?_;refine Tr.v hcx [1000032] _ [] rfl rfl rfl ?_ bK;exact ⟨k+1,⟨(by omega),O1⟩,LT,rfl⟩
   have c5:=True.intro;refine Tr.w hcx [] [some 48,some 49,some 50,some 51,some 52,some 53,some 54] [] rfl rfl rfl ?_ bK;refine aq rfl ?_;refine Tr.exit ?_;refine hK7 _ ?_;obtain rfl:j=ln l i k (dh l i (dB l i).2 k).2:=by omega
   refine Tr.v hcx [92] _ [] rfl rfl rfl ?_ bK;refine hK6 _ ?_;refine Tr.k [0,2,3,4,5,6,7,8,9] ?_;refine Tr.k [0,2,3,4,5,6,7,8,9] ?_;refine aW hcx [0,1,2] ?_;refine Tr.v hcx [1000032] _ [] rfl rfl rfl ?_ bK;exact ⟨k+1,⟨(by omega),O1⟩,LT,rfl⟩
  refine Tr.exit ?_;refine hK4 _ ?_;obtain rfl:k=1+cu l (1+i) 2:=by omega
  refine Tr.v hcx [98] _ [] rfl rfl rfl ?_ bK;refine hK3 _ ?_;refine Tr.k [0,2,3,4,5,6] ?_;refine aW hcx [0,1] ?_;refine Tr.v hcx [1000022] _ [] rfl rfl rfl ?_ bK;exact ⟨i+1,⟨(by omega),O1⟩,LT,rfl⟩
 refine Tr.exit ?_;refine hK1 _ ?_;obtain rfl:i=1+cu l 0 4 / 3:=by omega
 refine Tr.w hcx [] _ [] rfl rfl rfl ?_ bK;exact Tr.ret UP
end Go.Sx
