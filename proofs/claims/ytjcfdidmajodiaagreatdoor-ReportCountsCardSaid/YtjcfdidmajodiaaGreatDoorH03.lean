import Derived.KernelRfl
import Derived.Test.YtjcfdidmajodiaaGreatDoorH01
set_option linter.unusedVariables false
set_option linter.defProp false
set_option maxRecDepth 100000
namespace Go.Vt
open Go.Vc
inductive X where
 | v (i:Nat)|int (n:Nat)|neg (n:Nat)|wr (k:IntKind) (x:X)|add (x y:X)|sub (x y:X)|mul (x y:X)|tdiv (x y:X)|tmod (x y:X)
 | shl (k:IntKind) (x y:X)|shr (k:IntKind) (x y:X)|bAnd (k:IntKind) (x y:X)|bOr (k:IntKind) (x y:X)|bXor (k:IntKind) (x y:X)|bNot (k:IntKind) (x y:X)
 | ofN (x:X)|ofC (x:X)|mn (x y:X)|mx (x y:X)|pj (i j:Nat)
 | tt (b:Bool)|not (x:X)|lt (x y:X)|le (x y:X)|gt (x y:X)|ge (x y:X)|eqI (x y:X)|neI (x y:X)|eqB (x y:X)|eqS (x y:X)|eqR (x y:X)
 | ls (x y:X)|or (x y:X)|and (x y:X)|eqU (x y:X)|isN (x:X)
 | str (l:List Nat)|ext (s l h:X)|app (s t:X)
 | nat (n:Nat)|toN (x:X)|nsub (x y:X)|size (s:X)
 | ad (b:X) (n:Nat)|dM (b o:X) (n:Nat)|adn (x:X) (n:Nat)|adx (a i:X) (k:Nat)
 | onil|osome (a:X)|oif (m l o:X) (k:Nat)
 | six (a b c d e f:X)|z6
 | vint (k:IntKind) (x:X)|vbool (x:X)|vstr (x:X)|vptr (x:X)|vslice (p l c:X)|vmap (x:X)|mnil|vnilf|vnili|viface (t:Nat) (x:X)|vfn (f:Nat) (a b:X)
 | vagg (l:X)|vaggx (l i:X) (k:Nat)|vtup (l:X)|undef|xa (j k:Nat)
 | nil|cons (x r:X)|csix (j:Nat) (r:X)|cvs (j:Nat)|cz6
 | drew (w:X)
inductive Bu where
 | a|c|r|l
inductive Cn where
 | fa|kk (v w:X)|an (c d:Cn)|orr (c d:Cn)
 | ex (k:SK) (c:Cn)
 | cl (w a v:X) (c:Cn)|cs (w a l:X) (c:Cn)|os (p:X) (c:Cn)|cd (b:X) (c d:Cn)
 | sk (w a v:X) (c:Cn)|sl (a l w:X) (c:Cn)|nw (w l:X) (ty:Nat) (c:Cn)
 | ev (e v:X) (c:Cn)|er (e v:X) (c:Cn)|z0 (i:X) (c:Cn)|ln (i n:X) (c:Cn)|le (i n:X) (c:Cn)|ne (i:X) (c:Cn)|ms (s t:X) (c:Cn)
 | ix (s i:X) (c:Cn)|ar (l i:X) (sz:Nat) (v:X) (c:Cn)
 | ca (f:Nat) (l w:X) (c:Cn)|cf (f l w:X) (c:Cn)|ni (v:X) (c:Cn)|nf (v:X) (c:Cn)
 | cv (s d:Nat) (x w:X) (c:Cn)|mk (ty:Nat) (l k w:X) (c:Cn)
 | ap (o:Bu) (tys:List Nat) (ty:Nat) (l w:X) (c:Cn)
 | lk (ty:Nat) (x i:X) (b:Bool) (w:X) (c:Cn)|mu (ty:Nat) (m k x w:X) (c:Cn)|mm (ty:Nat) (r w:X) (c:Cn)|rg (ty:Nat) (x w:X) (c:Cn)|nx (i:X) (s:Bool) (ty:Nat) (w:X) (c:Cn)|en (i w:X) (c:Cn)
 | jn (ks:List SK) (c d:Cn)|jp (j:Nat) (l w:X)|lo (ks:List SK) (l w:X) (c:Cn)|lp (i m:Nat) (l w:X)|lm (i m:Nat) (l w:X)
 | al (k:SK) (c:Cn)|aw (c:Cn)|am (c:Cn)|ax (c:Cn)|im (c d:Cn)|pa (k:SK) (c:Cn)|pw (c:Cn)|st (f:Nat) (l:X) (c:Cn)
inductive Ud where
 | o|bo|sr|it (k:IntKind)|pt (e:Nat)|sl (e:Nat)|ar (n e:Nat)|mp (e:Nat)|st (l:List Nat)|tu (l:List Nat)|ifc|fn
inductive Tr where
 | o
 | n (x:Ud) (a b:Tr)
def ZT:Nat->Tr->Nat->Ud
 | 0,_,_=>.o
 | _,.o,_=>.o
 | f+1,.n x a b,n=>match n with
  | 0=>x
  | n+1=>cond (((n%2)==0)) (ZT f a (n / 2)) (ZT f b (n / 2))
def ZO:Ud->SK
 | .bo=>.bool
 | .it k=>.int k
 | .sr=>.str
 | .pt _=>.ptr
 | .sl _=>.slice
 | .mp _=>.map
 | _=>.raw
def Vx:Ud->Bool
 | .it .i64=>true
 | _=>false
def Xz(T:Nat->Ud):Nat->Nat->List SK
 | 0,_=>[]
 | n+1,t=>match T t with
  | .st l=>l.flatMap (Xz T n)
  | .ar l e=>cond ((l==6)&&Vx (T e)) [.six] (List.replicate l (Xz T n e)).flatten
  | u=>[ZO u]
def MT(T:Nat->Ud)(t:Nat):TK:=match T t with
 | .st _=>.agg (Xz T 12 t)
 | .ar _ _=>.agg (Xz T 12 t)
 | u=>.s (ZO u)
def VC:List SK->Nat
 | []=>0
 | .six :: l=>VC l+6
 | _ :: l=>VC l+1
def YD(T:Nat->Ud)(t:Nat):Nat:=VC (Xz T 12 t)
def kdT(T:Nat->Ud)(t:Nat):Kd:=match T t with
 | .tu l=>.tup (l.map (MT T))
 | _=>.t (MT T t)
abbrev Fr:=List (List X)
def g1:List X->Nat->X
 | [],_=>.undef
 | x :: _,0=>x
 | _ :: l,n+1=>g1 l n
def g2:Fr->Nat->List X
 | [],_=>[]
 | x :: _,0=>x
 | _ :: l,n+1=>g2 l n
def p1:List X->Nat->X->List X
 | [],0,v=>[v]
 | [],n+1,v=>.undef :: p1 [] n v
 | _ :: l,0,v=>v :: l
 | x :: l,n+1,v=>x :: p1 l n v
def p2:Fr->Nat->Nat->X->Fr
 | [],0,m,v=>[p1 [] m v]
 | [],n+1,m,v=>[] :: p2 [] n m v
 | x :: l,0,m,v=>p1 x m v :: l
 | x :: l,n+1,m,v=>x :: p2 l n m v
def XT(t:Fr)(n:Nat):X:=g1 (g2 t (n / 8)) (n%8)
def V4(t:Fr)(n:Nat)(v:X):Fr:=p2 t (n / 8) (n%8) v
def Me:Fr->List (Nat×X)->Fr
 | t,[]=>t
 | t,(n,v) :: l=>Me (V4 t n v) l
def cs0:Value->X
 | .bool b=>.vbool (.tt b)
 | .int k (.ofNat n)=>.vint k (.int n)
 | .int k (.negSucc n)=>.vint k (.neg (n+1))
 | .string s=>.vstr (.str (s.data.toList.map (·.toNat)))
 | .pointer none=>.vptr .onil
 | .pointer (some a)=>.vptr (.osome (.ad (.nat a.block) a.off))
 | .slice none l c=>.vslice .onil (.nat l) (.nat c)
 | .slice (some a) l c=>.vslice (.osome (.ad (.nat a.block) a.off)) (.nat l) (.nat c)
 | .map none=>.vmap .mnil
 | .nilFunc=>.vnilf
 | .nilIface=>.vnili
 | .func (.func f) _ _=>.vfn f .nil .nil
 | _=>.undef
def Bj:List X->X
 | []=>.nil
 | x :: l=>.cons x (Bj l)
def Lc:X->List X
 | .cons x r=>x :: Lc r
 | _=>[]
def Z7:Value->X
 | .agg l=>.vagg (Bj (l.toList.map cs0))
 | .iface t v=>.viface t (cs0 v)
 | v=>cs0 v
def mR(t:Fr):Operand->X
 | .tmp i=>XT t i
 | .const v=>Z7 v
 | .global g=>.vptr (.osome (.ad (.nat g) 0))
 | .func f=>.vfn f .nil .nil
def Yp:List X->Option Nat
 | .vint .i64 (.pj 0 a) :: .vint .i64 (.pj 1 b) :: .vint .i64 (.pj 2 c) :: .vint .i64 (.pj 3 d) :: .vint .i64 (.pj 4 e) :: .vint .i64 (.pj 5 f) :: _ =>
  cond ((a==b)&&((a==c)&&((a==d)&&((a==e)&&(a==f))))) (some a) none
 | _=>none
def isZ:X->Bool
 | .vint .i64 (.int n)=>n==0
 | _=>false
def Yo(l:List X):Bool:=(l.length==6)&&l.all isZ
def vM:Nat->List X->X
 | 0,_=>.nil
 | _,[]=>.nil
 | n+1,x :: l=>match Yp (x :: l) with
  | some j=>match (x :: l).drop 6 with
   | []=>.cvs j
   | r=>.csix j (vM n r)
  | none=>.cons x (vM n l)
def gl(l:List X):X:=cond (Yo l) .cz6 (vM (l.length+1) l)
def Zm:X->X
 | .vagg l=>.vagg (gl (Lc l))
 | x=>x
def em:X->X
 | .vtup l=>.vtup (Bj ((Lc l).map Zm))
 | .viface t x=>.viface t (Zm x)
 | x=>Zm x
def YQ(l:List X):X:=Bj (l.map em)
def Oc:List SK->Cn->Cn
 | [],c=>c
 | k :: ks,c=>.ex k (Oc ks c)
def XQ:TK->List SK
 | .s k=>[k]
 | .agg ks=>ks
def sS(k:SK)(d:Nat):List X×Nat:=match k with
 | .int k=>([.vint k (.v d)],d+1)
 | .bool=>([.vbool (.v d)],d+1)
 | .str=>([.vstr (.v d)],d+1)
 | .ptr=>([.vptr (.v d)],d+1)
 | .slice=>([.vslice (.v d) (.v (d+1)) (.v (d+2))],d+3)
 | .map=>([.vmap (.v d)],d+1)
 | .blk=>([.vptr (.osome (.ad (.v d) 0))],d+1)
 | .raw=>([.v d],d+1)
 | .six=>([.vint .i64 (.pj 0 d),.vint .i64 (.pj 1 d),.vint .i64 (.pj 2 d),.vint .i64 (.pj 3 d),.vint .i64 (.pj 4 d),.vint .i64 (.pj 5 d)],d+1)
def sL:List SK->Nat->List X×Nat
 | [],d=>([],d)
 | k :: ks,d=>match sS k d with
  | (a,e)=>match sL ks e with
   | (b,c)=>(a++b,c)
def hd:List X->X
 | x :: _=>x
 | []=>.undef
def sT(k:TK)(d:Nat):X×Nat:=match k with
 | .s k=>match sS k d with
  | (a,b)=>(hd a,b)
 | .agg ks=>match sL ks d with
  | (a,b)=>(.vagg (Bj a),b)
def sTL:List TK->Nat->List X×Nat
 | [],d=>([],d)
 | k :: ks,d=>match sT k d with
  | (a,e)=>match sTL ks e with
   | (b,c)=>(a :: b,c)
def bT(k:TK)(d:Nat)(F:X->Nat->Cn):Cn:=match sT k d with
 | (v,a)=>Oc (XQ k) (F v a)
def bK(k:Kd)(d:Nat)(F:X->Nat->Cn):Cn:=match k with
 | .t k=>bT k d F
 | .tup ks=>match sTL ks d with
  | (v,a)=>Oc (ks.flatMap XQ) (F (.vtup (Bj v)) a)
abbrev Pn:=List (Bool×X×X)
abbrev KX:=X->X->Nat->Pn->Cn
def YV(p:X)(d:Nat)(F:X->Nat->Cn):Cn:=match p with
 | .onil=>.fa
 | .osome a=>F a d
 | p=>.os p (F (.v d) (d+1))
def Zb(a:X)(n:Nat):X:=match n with
 | 0=>a
 | n=>match a with
  | .ad b m=>.ad b (m+n)
  | .dM b o m=>.dM b o (m+n)
  | a=>.adn a n
def ri:X->List X
 | .vagg l=>Lc l
 | x=>[x]
def TL(T:Nat->Ud)(t:TypeId):Nat:=YD T t
def Vp(T:Nat->Ud)(t:TypeId)(f:Nat):Nat×Nat:=match T t with
 | .st l=>((l[f]?).getD 0,((l.take f).map (YD T)).sum)
 | _=>(0,0)
def zSK:SK->List X
 | .int k=>[.vint k (.int 0)]
 | .bool=>[.vbool (.tt false)]
 | .str=>[.vstr (.str [])]
 | .ptr=>[.vptr .onil]
 | .slice=>[.vslice .onil (.nat 0) (.nat 0)]
 | .map=>[.vmap .mnil]
 | .six=>List.replicate 6 (.vint .i64 (.int 0))
 | _=>[.vnili]
def YM(T:Nat->Ud):Nat->Nat->List X
 | 0,_=>[]
 | n+1,t=>match T t with
  | .st l=>l.flatMap (YM T n)
  | .ar l e=>(List.replicate l (YM T n e)).flatten
  | .fn=>[.vnilf]
  | u=>zSK (ZO u)
def Ln(T:Nat->Ud)(t:TypeId):X:=match T t with
 | .st _=>.vagg (Bj (YM T 12 t))
 | .ar _ _=>.vagg (Bj (YM T 12 t))
 | _=>hd (YM T 12 t)
def ZK:List X->Nat->List X->List X
 | l,off,cs=>l.take off++(cs++l.drop (off+cs.length))
def DF(pl:Nat->Nat)(t:Fr):List (Nat×Operand)->List X->List X
 | [],l=>l
 | (i,o) :: ps,l=>DF pl t ps (ZK l (pl i) (ri (mR t o)))
def Vy:TK->Bool
 | .agg _=>true
 | _=>false
def Xt(i:X)(F:X->Cn)(a top:X):Option X->Cn
 | none=>F a
 | some (.vint _ i)=>.z0 i (.le i top (F (.toN i)))
 | some _=>.fa
def jt(neg:Bool)(r:X)(w:X)(d:Nat)(k:KX):Cn:=match r with
 | .tt b=>k (.vbool (.tt (cond neg (!b) b))) w d []
 | r=>k (.vbool (cond neg (.not r) r)) w d []
def Ox:Operand->Bool
 | .const .nilIface=>true
 | .const .nilFunc=>true
 | .const (.pointer none)=>true
 | .const (.slice none _ _)=>true
 | _=>false
def XY(x:X)(neg:Bool)(w:X)(d:Nat)(k:KX):Option Cn:=match x with
 | .vptr .onil=>some (jt neg (.tt true) w d k)
 | .vptr (.osome _)=>some (jt neg (.tt false) w d k)
 | .vptr p=>some (jt neg (.isN p) w d k)
 | .vslice .onil _ _=>some (jt neg (.tt true) w d k)
 | .vslice (.osome _) _ _=>some (jt neg (.tt false) w d k)
 | .vslice p _ _=>some (jt neg (.isN p) w d k)
 | _=>none
def Ur(x:X)(neg:Bool)(w:X)(d:Nat)(k:KX):Cn:=match x with
 | .vnili=>jt neg (.tt true) w d k
 | .viface _ _=>jt neg (.tt false) w d k
 | x=>.ni x (jt neg (.v d) w (d+1) k)
def Uq(x:X)(neg:Bool)(w:X)(d:Nat)(k:KX):Cn:=match x with
 | .vnilf=>jt neg (.tt true) w d k
 | .vfn _ _ _=>jt neg (.tt false) w d k
 | x=>.nf x (jt neg (.v d) w (d+1) k)
def Zo:X->X->Option X
 | .vint _ a,.vint _ b=>some (.eqI a b)
 | .vbool a,.vbool b=>some (.eqB a b)
 | .vstr a,.vstr b=>some (.eqR a b)
 | _,_=>none
def Nv:List (Option X)->Option X
 | []=>some (.tt true)
 | none :: _=>none
 | some x :: l=>match Nv l with
  | some r=>some (.and x r)
  | none=>none
def Wt(l:List X):Option X:=match Yp l with
 | some j=>some (.v j)
 | none=>cond (Yo l) (some .z6) none
def X0(T:Nat->Ud):List Nat->Nat->List (Nat×Nat)
 | [],_=>[]
 | t :: l,n=>(t,n) :: X0 T l (n+YD T t)
def Zp(T:Nat->Ud):Nat->TypeId->List X->List X->Option X
 | 0,_,_,_=>none
 | n+1,t,xs,c=>match T t with
  | .st d=>Nv ((X0 T d 0).map λ f=>Zp T n f.1 ((xs.drop f.2).take (YD T f.1)) ((c.drop f.2).take (YD T f.1)))
  | .ar l e=>match cond ((l==6)&&Vx (T e)) (Wt xs) none,cond ((l==6)&&Vx (T e)) (Wt c) none with
   | some a,some b=>some (.eqU a b)
   | _,_=>match TL T e with
    | z=>Nv ((List.range l).map λ i=>Zp T n e ((xs.drop (i*z)).take z) ((c.drop (i*z)).take z))
  | _=>match xs,c with
   | x :: _,y :: _=>Zo x y
   | _,_=>none
def Sr:X->Option Int
 | .int n=>some n
 | .neg n=>some (-n)
 | _=>none
def XG(T:Nat->Ud)(ty:TypeId)(neg:Bool)(x y:X)(w:X)(d:Nat)(k:KX):Cn:=match x,y with
 | .vint _ a,.vint _ b=>match Sr a,Sr b with
  | some m,some n=>jt neg (.tt (m==n)) w d k
  | _,_=>k (.vbool (cond neg (.neI a b) (.eqI a b))) w d []
 | .vbool a,.vbool b=>jt neg (.eqB a b) w d k
 | .vstr a,.vstr b=>jt neg (.eqS a b) w d k
 | .viface _ _,.vnili=>jt neg (.tt false) w d k
 | .vnili,.viface _ _=>jt neg (.tt false) w d k
 | .viface s a,.viface t b=>cond ((s==t)) (match a,b with
  | .vint _ a,.vint _ b=>match Sr a,Sr b with
   | some m,some n=>jt neg (.tt (m==n)) w d k
   | _,_=>jt neg (.eqI a b) w d k
  | _,_=>.fa) (jt neg (.tt false) w d k)
 | .vagg a,.vagg b=>match Zp T 12 ty (Lc a) (Lc b) with
  | some r=>jt neg r w d k
  | none=>.fa
 | _,_=>.fa
def XH(T:Nat->Ud)(ty:TypeId)(neg:Bool)(x y:X)(b a:Operand)(w:X)(d:Nat)(k:KX):Cn :=
 match T ty with
 | .ifc=>cond (Ox a) (Ur x neg w d k) (cond (Ox b) (Ur y neg w d k) (XG T ty neg x y w d k))
 | .fn=>cond (Ox a) (Uq x neg w d k) (Uq y neg w d k)
 | _=>match cond (Ox a) (XY x neg w d k) none with
  | some c=>c
  | none=>match cond (Ox b) (XY y neg w d k) none with
   | some c=>c
   | none=>XG T ty neg x y w d k
def Zg(T:Nat->Ud)(o:BinOp)(ty:TypeId)(x y:X)(c e:Operand)(w:X)(d:Nat)(k:KX):Cn:=match o with
 | .eql=>XH T ty false x y c e w d k
 | .neq=>XH T ty true x y c e w d k
 | o=>match x,y with
  | .vint q a,.vint _ b=>match o with
   | .add=>k (.vint q (.wr q (.add a b))) w d []
   | .sub=>k (.vint q (.wr q (.sub a b))) w d []
   | .mul=>k (.vint q (.wr q (.mul a b))) w d []
   | .lss=>k (.vbool (.lt a b)) w d []
   | .leq=>k (.vbool (.le a b)) w d []
   | .gtr=>k (.vbool (.gt a b)) w d []
   | .geq=>k (.vbool (.ge a b)) w d []
   | .quo=>.ne b (k (.vint q (.wr q (.tdiv a b))) w d [])
   | .rem=>.ne b (k (.vint q (.tmod a b)) w d [])
   | .shl=>.z0 b (k (.vint q (.shl q a b)) w d [])
   | .shr=>.z0 b (k (.vint q (.shr q a b)) w d [])
   | .and=>k (.vint q (.bAnd q a b)) w d []
   | .or=>k (.vint q (.bOr q a b)) w d []
   | .xor=>k (.vint q (.bXor q a b)) w d []
   | .andNot=>k (.vint q (.bNot q a b)) w d []
   | _=>.fa
  | .vstr a,.vstr b=>match o with
   | .add=>.ms a b (k (.vstr (.app a b)) w d [])
   | .lss=>k (.vbool (.ls a b)) w d []
   | .leq=>k (.vbool (.or (.ls a b) (.eqS a b))) w d []
   | .gtr=>k (.vbool (.not (.or (.ls a b) (.eqS a b)))) w d []
   | .geq=>k (.vbool (.not (.ls a b))) w d []
   | _=>.fa
  | _,_=>.fa
def ZB(mx:Bool):X->List X->X
 | r,[]=>r
 | .vint q a,.vint _ b :: l=>ZB mx (.vint q (cond mx (.mx a b) (.mn a b))) l
 | r,_=>r
def YO(o:Bu)(c:Call)(ty:TypeId)(a:List X)(w:X)(d:Nat)(F:Nat->Cn):Cn:=.ap o c.argTypes.toList ty (YQ a) w (F (d+2))
def Xy(T:Nat->Ud)(f:FuncId)(a:List X)(ty:TypeId)(w:X)(d:Nat)(k:KX):Cn:=.ca f (YQ a) w (bK (kdT T ty) (d+2) λ v b=>.er (.v d) (em v) (k v (.v (d+1)) b []))
def goX(T:Nat->Ud)(c:Call)(t:Fr)(ty:TypeId)(w:X)(d:Nat)(k:KX):Cn :=
 match c.args.toList.map (mR t),c.callee with
 | a,.builtin .len=>match a with
  | .vstr s :: _=>k (.vint .i64 (.ofN (.size s))) w d []
  | .vslice _ l _ :: _=>k (.vint .i64 (.ofN l)) w d []
  | _=>match T ((c.argTypes[0]?).getD 0) with
   | .ar n _=>k (.vint .i64 (.int n)) w d []
   | .pt e=>match T e with
    | .ar n _=>k (.vint .i64 (.int n)) w d []
    | _=>.fa
   | .mp _=>YO .l c ty a w d λ b=>bT (MT T ty) b λ v h=>.ev (.v d) (em v) (k v (.v (d+1)) h [])
   | _=>.fa
 | x :: a,.builtin .min=>k (ZB false x a) w d []
 | x :: a,.builtin .max=>k (ZB true x a) w d []
 | a,.builtin .append=>YO .a c ty a w d λ b=>bT (MT T ty) b λ v h=>.ev (.v d) (em v) (k v (.v (d+1)) h [])
 | a,.builtin .copy=>YO .c c ty a w d λ b=>k (.v d) (.v (d+1)) b []
 | a,.builtin .clear=>YO .r c ty a w d λ b=>k (.v d) (.v (d+1)) b []
 | a,.value f=>match mR t f with
  | .vfn g x y=>Xy T g (Lc x++(a++Lc y)) ty w d k
  | .undef=>.fa
  | f=>.cf f (YQ a) w (bK (kdT T ty) (d+2) λ v b=>.er (.v d) (em v) (k v (.v (d+1)) b []))
 | _,_=>.fa
def ZR(l:X)(h m:X)(sz:Nat)(a:X):X:=.vslice (.oif m l a sz) (.nsub h l) (.nsub m l)
def Pe(t:Fr):Option Operand->Option X
 | none=>none
 | some o=>some (mR t o)
def RS(T:Nat->Ud)(d:Option Nat)(i:Nat):List Oper->TK
 | []=>.s .raw
 | o :: l=>match o.op,d with
  | .extract (.tmp x) j,some y=>cond ((x==y)&&(i==j)) (MT T o.type) (RS T d i l)
  | _,_=>RS T d i l
def YW(T:Nat->Ud)(rest:List Oper)(o:Oper)(t:Fr)(w:X)(d:Nat)(k:KX):Cn:=match o.op with
 | .move x=>k (mR t x) w d []
 | .assign x=>k (mR t x) w d []
 | .pick c a b=>match mR t c with
  | .vbool (.tt true)=>k (mR t a) w d []
  | .vbool (.tt false)=>k (mR t b) w d []
  | .vbool c=>.cd c (k (mR t a) w d []) (k (mR t b) w d [])
  | _=>.fa
 | .nilCheck x=>match mR t x with
  | .vptr p=>YV p d λ a d=>k (.vptr (.osome a)) w d []
  | .vfn f a b=>k (.vfn f a b) w d []
  | .viface a b=>k (.viface a b) w d []
  | _=>.fa
 | .fieldAddr ty x f=>match mR t x with
  | .vptr (.osome a)=>k (.vptr (.osome (Zb a (Vp T ty f).2))) w d []
  | _=>.fa
 | .load ty x=>match mR t x with
  | .vptr p=>YV p d λ a d=>bT (MT T ty) d λ v g=>match v with
   | .vagg l=>cond (Vy (MT T ty)) (match gl (Lc l) with
    | j=>.cs w a j (k v w g [(true,a,j)])) .fa
   | v=>.cl w a v (k v w g [(false,a,v)])
  | _=>.fa
 | .store _ x y=>match mR t x,ri (mR t y) with
  | .vptr (.osome _),[]=>k .undef w d []
  | .vptr (.osome a),[v]=>.sk w a (em v) (k .undef (.v d) (d+1) [])
  | .vptr (.osome a),l=>.sl a (gl l) w (k .undef (.v d) (d+1) [])
  | _,_=>.fa
 | .box ty x=>.nw w (gl (ri (mR t x))) ty (k (.vptr (.osome (.ad (.v d) 0))) (.v (d+1)) (d+2) [])
 | .alloc ty=>.nw w (gl (ri (Ln T ty))) ty (k (.vptr (.osome (.ad (.v d) 0))) (.v (d+1)) (d+2) [])
 | .build ty ps=>match T ty with
  | .ar _ e=>match TL T e with
   | z=>k (.vagg (Bj (DF (λ i=>i*z) t ps.toList (ri (Ln T ty))))) w d []
  | _=>k (.vagg (Bj (DF (λ i=>(Vp T ty i).2) t ps.toList (ri (Ln T ty))))) w d []
 | .buildSlice ty n ps=>match T ty with
  | .sl e=>match TL T e with
   | z=>.nw w (gl (DF (λ i=>i*z) t ps.toList (List.replicate n (ri (Ln T e))).flatten)) e (k (.vslice (.osome (.ad (.v d) 0)) (.nat n) (.nat n)) (.v (d+1)) (d+2) [])
  | _=>.fa
 | .field ty x f=>match mR t x,Vp T ty f with
  | .vagg l,(u,off)=>cond (Vy (MT T u)) (k (.vagg (Bj (((Lc l).drop off).take (TL T u)))) w d []) (k (hd ((Lc l).drop off)) w d [])
  | _,_=>.fa
 | .extract x i=>match mR t x with
  | .vtup l=>k (hd ((Lc l).drop i)) w d []
  | _=>.fa
 | .makeInterface ty x=>k (.viface ty (mR t x)) w d []
 | .makeFunc (.func f) a b=>k (.vfn f (Bj (a.toList.map (mR t))) (Bj (b.toList.map (mR t)))) w d []
 | .unOp .not _ x=>match mR t x with
  | .vbool (.tt b)=>k (.vbool (.tt (!b))) w d []
  | .vbool x=>k (.vbool (.not x)) w d []
  | _=>.fa
 | .unOp .neg _ x=>match mR t x with
  | .vint q x=>k (.vint q (.wr q (.sub (.int 0) x))) w d []
  | _=>.fa
 | .binOp b ty x y _=>Zg T b ty (mR t x) (mR t y) x y w d k
 | .convert s e x=>match T e,mR t x with
  | .it q,.vint _ x=>k (.vint q (.wr q x)) w d []
  | _,x=>.cv s e (em x) w (bT (MT T o.type) (d+2) λ v g=>.ev (.v d) (em v) (k v (.v (d+1)) g []))
 | .makeSlice ty l c=>.mk ty (mR t l) (mR t c) w (bT (MT T o.type) (d+2) λ v g=>.ev (.v d) (em v) (k v (.v (d+1)) g []))
 | .indexAddr ty x i=>match T ty,mR t x,mR t i with
  | .sl e,.vslice p l _,.vint _ i=>YV p d λ a d=>.z0 i (.ln i l (k (.vptr (.osome (.adx a i (TL T e)))) w d []))
  | .ar n e,.vptr p,.vint _ i=>YV p d λ a d=>.z0 i (.ln i (.nat n) (k (.vptr (.osome (.adx a i (TL T e)))) w d []))
  | _,_,_=>.fa
 | .index ty x i=>match T ty,mR t x,mR t i with
  | .sr,.vstr s,.vint _ i=>.z0 i (.ix s i (k (.vint .u8 (.ofC (.v d))) w (d+1) []))
  | .ar n e,.vagg l,.vint _ i=>.z0 i (.ln i (.nat n) (match (MT T e) with
   | .s q=>bT (.s q) d λ v g=>.ar (gl (Lc l)) i (TL T e) v (k v w g [])
   | .agg _=>k (.vaggx (gl (Lc l)) i (TL T e)) w d []))
  | _,_,_=>.fa
 | .slice ty x lo hi mx=>match T ty,mR t x with
  | .sr,.vstr s=>Xt s (λ h=>Xt s (λ l=>k (.vstr (.ext s l h)) w d []) (.nat 0) h (Pe t lo)) (.size s) (.size s) (Pe t hi)
  | .sl e,.vslice a l c=>Xt a (λ m=>Xt a (λ h=>Xt a (λ j=>k (ZR j h m (TL T e) a) w d []) (.nat 0) h (Pe t lo)) l m (Pe t hi)) c c (Pe t mx)
  | _,_=>.fa
 | .lookup ty x i b=>match T ty with
  | .mp e=>.lk ty (em (mR t x)) (em (mR t i)) b w (bT (MT T e) (d+2) λ v g=>cond b (.ex .bool (match X.vtup (.cons v (.cons (.vbool (.v g)) .nil)) with
    | v=>.ev (.v d) (em v) (k v (.v (d+1)) (g+1) []))) (.ev (.v d) (em v) (k v (.v (d+1)) g [])))
  | _=>.fa
 | .mapUpdate ty m q x=>.mu ty (em (mR t m)) (em (mR t q)) (em (mR t x)) w (k .undef (.v (d+1)) (d+2) [])
 | .insert ty m q x=>.mu ty (em (mR t m)) (em (mR t q)) (em (mR t x)) w (k .undef (.v (d+1)) (d+2) [])
 | .makeMap ty r=>.mm ty (match r with
  | none=>.nil
  | some r=>.cons (em (mR t r)) .nil) w (.ex .map (.ev (.v d) (.vmap (.v (d+2))) (k (.vmap (.v (d+2))) (.v (d+1)) (d+3) [])))
 | .range ty x=>.rg ty (em (mR t x)) w (.ex .blk (match X.vptr (.osome (.ad (.v (d+2)) 0)) with
  | v=>.ev (.v d) v (k v (.v (d+1)) (d+3) [])))
 | .next i s=>.nx (em (mR t i)) s o.type w (.orr (match X.vtup (.cons (.vbool (.tt false)) .nil) with
   | v=>.ev (.v d) v (k v (.v (d+1)) (d+2) []))
  (cond s (Oc [.int .i64,.int .i32] (match X.vtup (.cons (.vbool (.tt true)) (.cons (.vint .i64 (.v (d+2))) (.cons (.vint .i32 (.v (d+3))) .nil))) with
   | v=>.ev (.v d) v (k v (.v (d+1)) (d+4) [])))
   (Oc [.raw,.raw] (match X.vtup (.cons (.vbool (.tt true)) (.cons (.v (d+2)) (.cons (.v (d+3)) .nil))) with
   | v=>.ev (.v d) v (k v (.v (d+1)) (d+4) [])))))
 | .entry i=>.en (em (mR t i)) w (bK (.tup [RS T o.dst 0 rest,RS T o.dst 1 rest]) (d+2) λ v g=>.ev (.v d) (em v) (k v (.v (d+1)) g []))
 | .call c=>goX T c t o.type w d k
 | _=>.fa
def Mg(t:Fr)(d:Option Nat)(v:X):Fr:=match d with
 | some d=>V4 t d v
 | none=>t
def Vu(ops:List Oper)(o:Oper)(t:Fr)(A B:Fr->Cn):Cn:=match o.guard with
 | none=>A t
 | some (j,a)=>match (ops[j]?).bind (·.dst) with
  | none=>B t
  | some s=>match XT t s with
   | .vbool (.tt b)=>cond (cond a b (!b)) (A t) (B t)
   | .vbool c=>.cd c (cond a (A (V4 t s (.vbool (.tt true)))) (B (V4 t s (.vbool (.tt true))))) (cond a (B (V4 t s (.vbool (.tt false)))) (A (V4 t s (.vbool (.tt false)))))
   | _=>B t
def VW(T:Nat->Ud)(all:List Oper):List Oper->Fr->X->Nat->(Fr->X->Nat->Cn)->Cn
 | [],t,w,d,k=>k t w d
 | o :: l,t,w,d,k=>Vu all o t (λ t=>YW T l o t w d λ v w d _=>VW T all l (Mg t o.dst v) w d k) (λ t=>VW T all l (Mg t o.dst .undef) w d k)
def Z3(e:Edge):Bool:=match e.ground with
 | .textOnly _=>false
 | .gcOnly _=>false
 | _=>true
def rdX(o:Op):Bool:=match o with
 | .move _|.assign _|.pick _ _ _|.load _ _|.nilCheck _|.binOp .. | .unOp .. | .makeInterface .. | .makeFunc .. | .slice .. | .fieldAddr .. | .field .. | .indexAddr .. | .index .. | .extract .. | .typeAssert .. | .build ..=>true
 | .call c=>match c.callee with
  | .builtin .len|.builtin .min|.builtin .max|.builtin .cap=>true
  | _=>false
 | _=>false
structure Eo where
 i:Nat
 r:Bool
 b:Nat
 m:Nat
 o:Oper
def Z2:List Edge->Nat->Nat
 | [],m=>m
 | e :: l,m=>Z2 l (cond (Z3 e) (m ||| 1 <<< e.on) m)
def XZ:List Nat->Nat->Nat
 | [],_=>0
 | x :: _,0=>x
 | _ :: l,n+1=>XZ l n
def Z8(ms:List Nat):List Edge->Nat->Nat
 | [],m=>m
 | e :: l,m=>Z8 ms l (cond (Z3 e) (m ||| (1 <<< e.on ||| XZ ms e.on)) m)
def XF:List Oper->Nat->List Nat->List Eo
 | [],_,_=>[]
 | o :: l,i,ms=>match Z8 ms o.after.toList 0 with
  | m=>⟨i,rdX o.op,Z2 o.after.toList 0,m,o⟩ :: XF l (i+1) (ms++[m])
def Ya(ls:Nat)(e:Eo):Bool:=((e.b &&& ls)==e.b)
def Uw(ls:Nat):List Eo->Option (Eo×List Eo)
 | []=>none
 | e :: l=>match e.r&&Ya ls e with
  | true=>some (e,l)
  | false=>match Uw ls l with
   | some (x,r)=>some (x,e :: r)
   | none=>none
def Pq(ls:Nat):List Eo->List Eo->List (Eo×List Eo)
 | _,[]=>[]
 | p,e :: l=>match Ya ls e with
  | true=>(e,p++l) :: Pq ls (p++[e]) l
  | false=>Pq ls (p++[e]) l
def Zh(m i:Nat):Bool:=((m >>> i%2)==1)
def Za(i:Nat)(T:Pn)(a:List (Nat×Pn)):List (Nat×Pn):=match T with
 | []=>a
 | T=>(i,T) :: a
def X7(w:X):List (Nat×Pn)->Cn->Cn
 | [],c=>c
 | (_,l) :: r,c=>l.foldr (λ (g,a,v) c=>cond g (.cs w a v c) (.cl w a v c)) (X7 w r c)
def Z6:List Cn->Cn
 | []=>.fa
 | [c]=>c
 | c :: l=>.an c (Z6 l)
def NX(T:Nat->Ud)(ops:List Oper):Nat->Nat->List Eo->List (Nat×Pn)->Fr->X->Nat->(Fr->X->Nat->Cn)->Cn
 | 0,_,_,_,t,w,d,k=>k t w d
 | n+1,ls,l,a,t,w,d,k=>match Uw ls l with
  | some (e,l)=>match ls ||| 1 <<< e.i with
   | ls=>Vu ops e.o t (λ t=>YW T [] e.o t w d λ v w d q=>NX T ops n ls l (Za e.i q a) (Mg t e.o.dst v) w d k) (λ t=>NX T ops n ls l a (Mg t e.o.dst .undef) w d k)
  | none=>match Pq ls [] l with
   | []=>k t w d
   | ws=>Z6 (ws.map λ x=>match x with
    | (e,l)=>match a.filter λ q=>!Zh e.m q.1 with
     | a=>match ls ||| 1 <<< e.i with
      | ls=>Vu ops e.o t (λ t=>YW T [] e.o t w d λ v w d _=>X7 w a (NX T ops n ls l a (Mg t e.o.dst v) w d k)) (λ t=>NX T ops n ls l a (Mg t e.o.dst .undef) w d k))
def Ze(k:SK)(l:List X):List X×List X:=match k,l with
 | .six,l=>match Wt (l.take 6) with
  | some u=>([u],l.drop 6)
  | none=>match l with
   | .vint _ a :: .vint _ b :: .vint _ c :: .vint _ d :: .vint _ e :: .vint _ f :: r=>([.six a b c d e f],r)
   | _=>([],[])
 | .raw,x :: r=>([em x],r)
 | .int _,.vint _ x :: r=>([x],r)
 | .bool,.vbool x :: r=>([x],r)
 | .str,.vstr x :: r=>([x],r)
 | .ptr,.vptr x :: r=>([x],r)
 | .slice,.vslice p l c :: r=>([p,l,c],r)
 | .map,.vmap x :: r=>([x],r)
 | .blk,.vptr (.osome (.ad b 0)) :: r=>([b],r)
 | _,_=>([],[])
def Xn:List SK->List X->List X
 | [],_=>[]
 | k :: ks,l=>match Ze k l with
  | (a,r)=>a++Xn ks r
def NA(t:Fr):Live->List X
 | []=>[]
 | (s,k) :: l=>Xn (XQ k) (cond (Vy k) (ri (XT t s)) [XT t s])++NA t l
def WM:Live->Nat->List (Nat×X)×Nat
 | [],d=>([],d)
 | (s,k) :: l,d=>match sT k d with
  | (v,b)=>match WM l b with
   | (f,a)=>((s,v) :: f,a)
def UM:List SK->Cn->Cn
 | [],c=>c
 | k :: ks,c=>.al k (UM ks c)
def Xo(f:List (Nat×X))(l:Live):X:=Bj (NA (Me [] f) l)
def J9(l:Live):List SK:=l.flatMap λ x=>XQ x.2
abbrev QX:=Exit->Fr->X->Nat->Cn
def YZ(F:Fr->X->Nat->Cn)(Q:QX):QX
 | .normal,t,w,d=>F t w d
 | e,t,w,d=>Q e t w d
def blX(id:Nat)(Q:QX):QX
 | .exit i,t,w,d=>cond ((i==id)) (Q .normal t w d) (Q (.exit i) t w d)
 | e,t,w,d=>Q e t w d
def gtX(c:Code)(a:Code->Code->QX->QX->Nat->Fr->X->Nat->Cn)(p:Nat)(Q:QX):QX
 | .goto l,t,w,d=>match findLabel c l with
  | some rest=>a c rest Q Q p t w d
  | none=>.fa
 | e,t,w,d=>Q e t w d
def J0(T:Nat->Ud)(ann:Nat->Option Live)(e:Code->Code->QX->QX->Nat->Fr->X->Nat->Cn):Code->Nat->QX->Fr->X->Nat->Cn
 | .skip,_,Q,t,w,d=>Q .normal t w d
 | .label _,_,Q,t,w,d=>Q .normal t w d
 | .region _ ops draw,_,Q,t,w,d=>cond draw (NX T ops.toList ops.size 0 (XF ops.toList 0 []) [] t (.drew w) d λ t w d=>Q .normal t w d) (VW T ops.toList ops.toList t w d λ t w d=>Q .normal t w d)
 | .seq a b,p,Q,t,w,d=>match ann p with
  | none=>J0 T ann e a (2*p) (YZ (J0 T ann e b (2*p+1) Q) Q) t w d
  | some lv=>match WM lv (d+2) with
   | (f,g)=>.jn (J9 lv) (.aw (UM (J9 lv) (.im (.jp d (Xo f lv) (.v (d+1))) (.ax (J0 T ann e b (2*p+1) Q (Me (Me t ((lE a).map λ s=>(s,.xa g s))) f) (.v (d+1)) (g+1))))))
     (J0 T ann e a (2*p) (YZ (λ t w _=>.jp d (Bj (NA t lv)) w) Q) t w (d+1))
 | .cond c a b,p,Q,t,w,d=>match mR t c with
  | .vbool (.tt true)=>J0 T ann e a (2*p) Q t w d
  | .vbool (.tt false)=>J0 T ann e b (2*p+1) Q t w d
  | .vbool x=>.cd x (J0 T ann e a (2*p) Q t w d) (J0 T ann e b (2*p+1) Q t w d)
  | _=>.fa
 | .block id c,p,Q,t,w,d=>J0 T ann e c (2*p) (blX id Q) t w d
 | .loop c,p,Q,t,w,d=>match ann p with
  | none=>J0 T ann e c (2*p) (YZ (λ _ _ _=>.fa) Q) t w d
  | some lv=>match WM lv (d+3) with
   | (f,g)=>.lo (J9 lv) (Bj (NA t lv)) w (.aw (.am (UM (J9 lv) (.im (.lm d (d+2) (Xo f lv) (.v (d+1))) (.ax (J0 T ann e c (2*p) (YZ (λ t w _=>.lp d (d+2) (Bj (NA t lv)) w) Q) (Me (Me t ((lE c).map λ s=>(s,.xa g s))) f) (.v (d+1)) (g+1)))))))
 | .exit id,_,Q,t,w,d=>Q (.exit id) t w d
 | .ret,_,Q,t,w,d=>Q .ret t w d
 | .scope c,p,Q,t,w,d=>J0 T ann e c (2*p) (gtX c e p Q) t w d
 | .goto l,_,Q,t,w,d=>Q (.goto l) t w d
 | _,_,_,_,_,_=>.fa
def ZN(T:Nat->Ud)(ann:Nat->Option Live):Nat->Code->Code->QX->QX->Nat->Fr->X->Nat->Cn
 | 0=>λ _ _ _ _ _ _ _ _=>.fa
 | n+1=>λ c rest Q _ p t w d=>J0 T ann (ZN T ann n) rest (2*p+1) (gtX c (ZN T ann n) p Q) t w d
def RN(T:Nat->Ud)(fn:Func):List ResultVar->List X->Fr->X->Nat->Cn
 | [],[v],_,w,_=>.kk (em v) w
 | [],vs,_,w,_=>.kk (em (.vtup (Bj vs))) w
 | .tmp s :: l,vs,t,w,d=>RN T fn l (vs++[XT t s]) t w d
 | .cell a ty :: l,vs,t,w,d=>YW T [] { dst:=none,op:=.load ty (.tmp a),type:=ty,pos:= "",after:=#[],guard:=none } t w d λ v w d _=>RN T fn l (vs++[v]) t w d
def ZL(T:Nat->Ud)(fn:Func):QX
 | .normal,t,w,d=>RN T fn fn.results.toList [] t w d
 | .ret,t,w,d=>RN T fn fn.results.toList [] t w d
 | _,_,_,_=>.fa
inductive Pa where
 | k (ks:TK)
 | c (v:Value)
 | adr
 | err (t:Nat)
 | clo (f n:Nat)
def XA:Nat->Nat->List X
 | 0,_=>[]
 | n+1,d=>.vptr (.osome (.ad (.v d) 0)) :: XA n (d+1)
def ZH(p:Pa)(d:Nat):List SK×X:=match p with
 | .k k=>(XQ k,(sT k d).1)
 | .c v=>([],Z7 v)
 | .adr=>([.blk,.blk],.vptr (.osome (.dM (.v d) (.v (d+1)) 0)))
 | .err t=>([.int .i64],.viface t (.vint .i64 (.v d)))
 | .clo f n=>(List.replicate n .blk,.vfn f .nil (Bj (XA n d)))
def wid:List SK->Nat
 | []=>0
 | .slice :: l=>wid l+3
 | _ :: l=>wid l+1
def X5(T:Nat->Ud):List TypeId->List (Nat×Pa)->Nat->Nat->List SK×List X
 | [],_,_,_=>([],[])
 | t :: b,ps,i,d=>match ZH (match ps.find? λ q=>(q.1==i) with
   | some q=>q.2
   | none=>.k (MT T t)) d with
  | (ks,x)=>match X5 T b ps (i+1) (d+wid ks) with
   | (a,xs)=>(ks++a,x :: xs)
def Z9:Nat->List X->Fr->Fr
 | _,[],t=>t
 | i,x :: l,t=>Z9 (i+1) l (V4 t i x)
def Zc:List (Nat×Live)->Nat->Option Live
 | [],_=>none
 | (q,lv) :: l,p=>match q==p with
  | true=>some lv
  | false=>Zc l p
structure Cf where
 ks:List SK
 xs:X
 c:Cn
def cmp(T:Nat->Ud)(fn:Func)(ps:List (Nat×Pa))(ann:List (Nat×Live)):Cf :=
 match X5 T (fn.params.toList++List.replicate fn.nfree 0) ps 0 0 with
 | (ks,xs)=>match wid ks with
  | d=>⟨ks,YQ xs,J0 T (Zc ann) (ZN T (Zc ann) 2) (gq fn) 1 (ZL T fn) (Z9 0 xs []) (.v d) (d+1)⟩
def TJ:List SK->Type->Type
 | [],R=>R
 | .int _ :: ks,R=>Int->TJ ks R
 | .bool :: ks,R=>Bool->TJ ks R
 | .str :: ks,R=>ByteArray->TJ ks R
 | .ptr :: ks,R=>Option Addr->TJ ks R
 | .slice :: ks,R=>Option Addr->Nat->Nat->TJ ks R
 | .map :: ks,R=>Option Nat->TJ ks R
 | .blk :: ks,R=>Nat->TJ ks R
 | .six :: ks,R=>I6->TJ ks R
 | .raw :: ks,R=>Value->TJ ks R
inductive U where
 | i (n:Int)|b (b:Bool)|s (s:ByteArray)|n (n:Nat)|a (a:Addr)|o (o:OA)|w (w:World)|v (v:Value)|l (l:List Value)|u (u:I6)|c (c:UInt8)|m (m:Option Nat)|f (f:Nat->Value)|e (e:Ending)
 | j (ks:List SK) (J:TJ ks (World->Prop))|g (ks:List SK) (J:TJ ks (World->Nat->Prop))
def U.I:U->Int|.i x=>x|_=>0
def U.B:U->Bool|.b x=>x|_=>true
def U.S:U->ByteArray|.s x=>x|_=>bs []
def U.N:U->Nat|.n x=>x|_=>0
def U.A:U->Addr|.a x=>x|_=>⟨0,0,none⟩
def U.O:U->Option Addr|.o x=>x|_=>none
def U.W:U->World|.w x=>x|_=>default
def U.V:U->Value|.v x=>x|_=>Value.nilIface
def U.L:U->List Value|.l x=>x|_=>[]
def U.U6:U->I6|.u x=>x|_=>z6
def U.C:U->UInt8|.c x=>x|_=>0
def U.M:U->Option Nat|.m x=>x|_=>none
def U.F:U->Nat->Value|.f x=>x|_=>λ _=>Value.nilIface
def U.E:U->Ending|.e x=>x|_=>.outgrown
def gU:List U->Nat->U
 | [],_=>.n 0
 | u :: _,0=>u
 | _ :: l,n+1=>gU l n
def tW:List U->List U
 | []=>[]
 | _ :: l=>l
def tP(i:Nat)(u:I6):Int:=match i with
 | 0=>u.a
 | 1=>u.b
 | 2=>u.c
 | 3=>u.d
 | 4=>u.e
 | _=>u.f
def tN(k:IntKind)(n:Int):Value:=match k with
 | .i64=>iv n
 | .i32=>.int .i32 n
 | .i16=>.int .i16 n
 | .i8=>.int .i8 n
 | .u64=>.int .u64 n
 | .u32=>.int .u32 n
 | .u16=>.int .u16 n
 | .u8=>.int .u8 n
def tI(b:Nat)(o:Nat)(n:Nat):Addr:=match n with
 | 0=>⟨b,o,none⟩
 | n=>⟨b,o+n,none⟩
def ltB(x y:Int):Bool:=decide (x<y)
def Cj(x y:Int):Bool:=decide (x<=y)
def gtB(x y:Int):Bool:=decide (x>y)
def geB(x y:Int):Bool:=decide (x>=y)
def mnI(x y:Int):Int:=if y<x then y else x
def mxI(x y:Int):Int:=if y>x then y else x
def oiF(m l:Nat)(o:OA)(k:Nat):Option Addr:=if m=l then o else Option.map (λ x=>Addr.add x (l*k)) o
def fj(x y:Int):ltB x y=decide (x<y):=rfl
def fh(x y:Int):Cj x y=decide (x<=y):=rfl
def ff(x y:Int):gtB x y=decide (x>y):=rfl
def fe(x y:Int):geB x y=decide (x>=y):=rfl
def fk(x y:Int):mnI x y=if y<x then y else x:=rfl
def fm(x y:Int):mxI x y=if y>x then y else x:=rfl
def fq(m l:Nat)(o:OA)(k:Nat):oiF m l o k=if m=l then o else Option.map (λ x=>Addr.add x (l*k)) o:=rfl
def tF:List Nat->List UInt8
 | []=>[]
 | n :: l=>UInt8.ofNat n :: tF l
def dn(d:Nat)(e:List U):X->U
 | .v i=>gU e (d-(i+1))
 | .int n=>.i (Int.ofNat n)
 | .neg n=>.i (-(Int.ofNat n))
 | .wr k x=>.i (k.wrap (dn d e x).I)
 | .add x y=>.i ((dn d e x).I+(dn d e y).I)
 | .sub x y=>.i ((dn d e x).I-(dn d e y).I)
 | .mul x y=>.i ((dn d e x).I*(dn d e y).I)
 | .tdiv x y=>.i (Int.tdiv (dn d e x).I (dn d e y).I)
 | .tmod x y=>.i (Int.tmod (dn d e x).I (dn d e y).I)
 | .shl k x y=>.i (k.wrap ((dn d e x).I*2 ^ (min (dn d e y).I.toNat k.bits)))
 | .shr k x y=>.i (Int.fdiv (dn d e x).I (2 ^ (min (dn d e y).I.toNat k.bits)))
 | .bAnd k x y=>.i (Lu k (dn d e x).I (dn d e y).I)
 | .bOr k x y=>.i (ZG k (dn d e x).I (dn d e y).I)
 | .bXor k x y=>.i (WY k (dn d e x).I (dn d e y).I)
 | .bNot k x y=>.i (Q5 k (dn d e x).I (dn d e y).I)
 | .ofN x=>.i (((dn d e x).N:Nat):Int)
 | .ofC x=>.i ((dn d e x).C.toNat:Int)
 | .mn x y=>.i (mnI (dn d e x).I (dn d e y).I)
 | .mx x y=>.i (mxI (dn d e x).I (dn d e y).I)
 | .pj i j=>.i (tP i (gU e (d-(j+1))).U6)
 | .tt b=>.b b
 | .not x=>.b (!(dn d e x).B)
 | .lt x y=>.b (ltB (dn d e x).I (dn d e y).I)
 | .le x y=>.b (Cj (dn d e x).I (dn d e y).I)
 | .gt x y=>.b (gtB (dn d e x).I (dn d e y).I)
 | .ge x y=>.b (geB (dn d e x).I (dn d e y).I)
 | .eqI x y=>.b ((dn d e x).I==(dn d e y).I)
 | .neI x y=>.b ((dn d e x).I !=(dn d e y).I)
 | .eqB x y=>.b ((dn d e x).B==(dn d e y).B)
 | .eqS x y=>.b ((dn d e x).S.toList==(dn d e y).S.toList)
 | .eqR x y=>.b ((dn d e x).S==(dn d e y).S)
 | .ls x y=>.b (Op.bytesLess (dn d e x).S.toList (dn d e y).S.toList)
 | .or x y=>.b ((dn d e x).B||(dn d e y).B)
 | .and x y=>.b ((dn d e x).B&&(dn d e y).B)
 | .eqU x y=>.b (I6.beq (dn d e x).U6 (dn d e y).U6)
 | .isN x=>.b (dn d e x).O.isNone
 | .str l=>.s (bs (tF l))
 | .ext s l h=>.s ((dn d e s).S.extract (dn d e l).N (dn d e h).N)
 | .app s t=>.s ((dn d e s).S++(dn d e t).S)
 | .nat n=>.n n
 | .toN x=>.n (dn d e x).I.toNat
 | .nsub x y=>.n ((dn d e x).N-(dn d e y).N)
 | .size s=>.n (dn d e s).S.size
 | .ad b n=>.a ⟨(dn d e b).N,n,none⟩
 | .dM b o n=>.a (tI (dn d e b).N (dn d e o).N n)
 | .adn x n=>.a (Addr.add (dn d e x).A n)
 | .adx a i k=>.a (Addr.add (dn d e a).A ((dn d e i).I.toNat*k))
 | .onil=>.o none
 | .osome a=>.o (some (dn d e a).A)
 | .oif m l o k=>.o (oiF (dn d e m).N (dn d e l).N (dn d e o).O k)
 | .six a b c f g h=>.u ⟨(dn d e a).I,(dn d e b).I,(dn d e c).I,(dn d e f).I,(dn d e g).I,(dn d e h).I⟩
 | .z6=>.u Vc.z6
 | .vint k x=>.v (tN k (dn d e x).I)
 | .vbool x=>.v (.bool (dn d e x).B)
 | .vstr x=>.v (.string (dn d e x).S)
 | .vptr x=>.v (.pointer (dn d e x).O)
 | .vslice p l c=>.v (.slice (dn d e p).O (dn d e l).N (dn d e c).N)
 | .vmap x=>.v (.map (dn d e x).M)
 | .mnil=>.m none
 | .vnilf=>.v .nilFunc
 | .vnili=>.v .nilIface
 | .viface t x=>.v (.iface t (dn d e x).V)
 | .vfn f a b=>.v (.func (.func f) (dn d e a).L.toArray (dn d e b).L.toArray)
 | .vagg l=>.v (.agg (dn d e l).L.toArray)
 | .vaggx l i k=>.v (.agg (Array.extract (dn d e l).L.toArray ((dn d e i).I.toNat*k) ((dn d e i).I.toNat*k+k)))
 | .vtup l=>.v (.tuple (dn d e l).L.toArray)
 | .undef=>.v Go.undef
 | .xa j k=>.v ((gU e (d-(j+1))).F k)
 | .nil=>.l []
 | .cons x r=>.l ((dn d e x).V :: (dn d e r).L)
 | .csix j r=>.l ((gU e (d-(j+1))).U6.on (dn d e r).L)
 | .cvs j=>.l (gU e (d-(j+1))).U6.vs
 | .cz6=>.l Vc.z6.vs
 | .drew w=>.w (dn d e w).W.drew
def qA(d:Nat)(e:List U):X->List U
 | .cons x r=>dn d e x :: qA d e r
 | _=>[]
def oo{R:Type}(z:R):(ks:List SK)->TJ ks R->List U->R
 | [],J,_=>J
 | .int _ :: ks,J,u :: l=>oo z ks (J u.I) l
 | .bool :: ks,J,u :: l=>oo z ks (J u.B) l
 | .str :: ks,J,u :: l=>oo z ks (J u.S) l
 | .ptr :: ks,J,u :: l=>oo z ks (J u.O) l
 | .slice :: ks,J,u :: b :: a :: l=>oo z ks (J u.O b.N a.N) l
 | .map :: ks,J,u :: l=>oo z ks (J u.M) l
 | .blk :: ks,J,u :: l=>oo z ks (J u.N) l
 | .six :: ks,J,u :: l=>oo z ks (J u.U6) l
 | .raw :: ks,J,u :: l=>oo z ks (J u.V) l
 | _ :: _,_,_=>z
def jU(u:U)(l:List U)(w:World):Prop:=match u with
 | .j ks J=>oo (λ _=>False) ks J l w
 | _=>False
def gJ(u:U)(l:List U)(w:World)(m:Nat):Prop:=match u with
 | .g ks J=>oo (λ _ _=>False) ks J l w m
 | _=>False
def kr(P:Program)(o:Bu)(b:List Nat)(ty:Nat)(l:List Value)(w:World)(K:KP):Prop:=match o with
 | .a=>gi P (Builtin.append_ b.toArray ty l.toArray) w K
 | .c=>gi P (Builtin.copy_ b.toArray ty l.toArray) w K
 | .r=>gi P (Builtin.clear_ b.toArray ty l.toArray) w K
 | .l=>gi P (Builtin.len_ b.toArray ty l.toArray) w K
def jq:List Value->Option Value
 | v :: _=>some v
 | []=>none
def dc(P:Program)(K:KP):Cn->Nat->List U->Prop
 | .fa,_,_=>False
 | .kk v w,d,e=>K (dn d e v).V (dn d e w).W
 | .an c c',d,e=>dc P K c d e/\dc P K c' d e
 | .orr c c',d,e=>dc P K c d e\/dc P K c' d e
 | .ex (.int _) c,d,e=>∃ n:Int,dc P K c (d+1) (.i n :: e)
 | .ex .bool c,d,e=>∃ b:Bool,dc P K c (d+1) (.b b :: e)
 | .ex .str c,d,e=>∃ s:ByteArray,dc P K c (d+1) (.s s :: e)
 | .ex .ptr c,d,e=>∃ p:Option Addr,dc P K c (d+1) (.o p :: e)
 | .ex .slice c,d,e=>∃ (a:OA) (l n:Nat),dc P K c (d+3) (.n n :: .n l :: .o a :: e)
 | .ex .map c,d,e=>∃ m:Option Nat,dc P K c (d+1) (.m m :: e)
 | .ex .blk c,d,e=>∃ r:Nat,dc P K c (d+1) (.n r :: e)
 | .ex .six c,d,e=>∃ u:I6,dc P K c (d+1) (.u u :: e)
 | .ex .raw c,d,e=>∃ v:Value,dc P K c (d+1) (.v v :: e)
 | .cl w a v c,d,e=>(dn d e w).W.cell? (dn d e a).A=some (dn d e v).V/\dc P K c d e
 | .cs w a l c,d,e=>aA (dn d e w).W (dn d e a).A 0 (dn d e l).L/\dc P K c d e
 | .os p c,d,e=>bO (dn d e p).O λ q=>dc P K c (d+1) (.a q :: e)
 | .cd b c c',d,e=>cond (dn d e b).B (dc P K c d e) (dc P K c' d e)
 | .sk w a v c,d,e=>fL (dn d e w).W (dn d e a).A (dn d e v).V λ w'=>dc P K c (d+1) (.w w' :: e)
 | .sl a l w c,d,e=>uP (dn d e a).A 0 (dn d e l).L (dn d e w).W λ w'=>dc P K c (d+1) (.w w' :: e)
 | .nw w l ty c,d,e=>cR (dn d e w).W (.cells (dn d e l).L.toArray ty) λ r w'=>dc P K c (d+2) (.w w' :: .n r :: e)
 | .ev x v c,d,e=>(dn d e x).V=(dn d e v).V/\dc P K c d e
 | .er x v c,d,e=>(dn d e x).E=.returned (dn d e v).V/\dc P K c d e
 | .z0 i c,d,e=>0<=(dn d e i).I/\dc P K c d e
 | .ln i n c,d,e=>(dn d e i).I<(((dn d e n).N:Nat):Int)/\dc P K c d e
 | .le i n c,d,e=>(dn d e i).I<=(((dn d e n).N:Nat):Int)/\dc P K c d e
 | .ne i c,d,e=>(dn d e i).I≠0/\dc P K c d e
 | .ms s t c,d,e=>(((dn d e s).S.size+(dn d e t).S.size:Nat):Int)<=IntKind.i64.max/\dc P K c d e
 | .ix s i c,d,e=>bO (dn d e s).S[(dn d e i).I.toNat]? λ b=>dc P K c (d+1) (.c b :: e)
 | .ar l i sz v c,d,e=>(dn d e l).L.toArray[(dn d e i).I.toNat*sz]?=some (dn d e v).V/\dc P K c d e
 | .ca f l w c,d,e=>Calls P f (dn d e l).L.toArray (dn d e w).W λ x w'=>dc P K c (d+2) (.w w' :: .e x :: e)
 | .cf f l w c,d,e=>lK P (dn d e f).V (dn d e l).L.toArray (dn d e w).W λ x w'=>dc P K c (d+2) (.w w' :: .e x :: e)
 | .ni v c,d,e=>OZ (dn d e v).V λ b=>dc P K c (d+1) (.b b :: e)
 | .nf v c,d,e=>OY (dn d e v).V λ b=>dc P K c (d+1) (.b b :: e)
 | .cv s t x w c,d,e=>gi P (convert s t (dn d e x).V) (dn d e w).W λ x w'=>dc P K c (d+2) (.w w' :: .v x :: e)
 | .mk ty l k w c,d,e=>gi P (Instr.makeSlice ty (dn d e l).V (dn d e k).V) (dn d e w).W λ x w'=>dc P K c (d+2) (.w w' :: .v x :: e)
 | .ap o h ty l w c,d,e=>kr P o h ty (dn d e l).L (dn d e w).W λ x w'=>dc P K c (d+2) (.w w' :: .v x :: e)
 | .lk ty x i b w c,d,e=>gi P (Instr.lookup ty (dn d e x).V (dn d e i).V b) (dn d e w).W λ x w'=>dc P K c (d+2) (.w w' :: .v x :: e)
 | .mu ty m k x w c,d,e=>gi P (Instr.mapUpdate ty (dn d e m).V (dn d e k).V (dn d e x).V) (dn d e w).W λ _ w'=>dc P K c (d+2) (.w w' :: .n 0 :: e)
 | .mm ty r w c,d,e=>gi P (Instr.makeMap ty (jq (dn d e r).L)) (dn d e w).W λ x w'=>dc P K c (d+2) (.w w' :: .v x :: e)
 | .rg ty x w c,d,e=>gi P (Instr.range ty (dn d e x).V) (dn d e w).W λ x w'=>dc P K c (d+2) (.w w' :: .v x :: e)
 | .nx i s ty w c,d,e=>gi P (Instr.next (dn d e i).V s ty) (dn d e w).W λ x w'=>dc P K c (d+2) (.w w' :: .v x :: e)
 | .en i w c,d,e=>gi P (Instr.entry (dn d e i).V) (dn d e w).W λ x w'=>dc P K c (d+2) (.w w' :: .v x :: e)
 | .jn ks c c',d,e=>∃ J:TJ ks (World->Prop),dc P K c (d+1) (.j ks J :: e)/\dc P K c' (d+1) (.j ks J :: e)
 | .jp j l w,d,e=>jU (gU e (d-(j+1))) (qA d e l) (dn d e w).W
 | .lo ks l w c,d,e=>∃ I:TJ ks (World->Nat->Prop),(∃ m,gJ (.g ks I) (qA d e l) (dn d e w).W m)/\dc P K c (d+1) (.g ks I :: e)
 | .lp i m l w,d,e=>∃ m',m'<(gU e (d-(m+1))).N/\gJ (gU e (d-(i+1))) (qA d e l) (dn d e w).W m'
 | .lm i m l w,d,e=>gJ (gU e (d-(i+1))) (qA d e l) (dn d e w).W (gU e (d-(m+1))).N
 | .al (.int _) c,d,e=>∀ n:Int,dc P K c (d+1) (.i n :: e)
 | .al .bool c,d,e=>∀ b:Bool,dc P K c (d+1) (.b b :: e)
 | .al .str c,d,e=>∀ s:ByteArray,dc P K c (d+1) (.s s :: e)
 | .al .ptr c,d,e=>∀ p:Option Addr,dc P K c (d+1) (.o p :: e)
 | .al .slice c,d,e=>∀ (a:OA) (l n:Nat),dc P K c (d+3) (.n n :: .n l :: .o a :: e)
 | .al .map c,d,e=>∀ m:Option Nat,dc P K c (d+1) (.m m :: e)
 | .al .blk c,d,e=>∀ r:Nat,dc P K c (d+1) (.n r :: e)
 | .al .six c,d,e=>∀ u:I6,dc P K c (d+1) (.u u :: e)
 | .al .raw c,d,e=>∀ v:Value,dc P K c (d+1) (.v v :: e)
 | .aw c,d,e=>∀ w':World,dc P K c (d+1) (.w w' :: e)
 | .am c,d,e=>∀ m:Nat,dc P K c (d+1) (.n m :: e)
 | .ax c,d,e=>∀ x:Nat->Value,dc P K c (d+1) (.f x :: e)
 | .im c c',d,e=>dc P K c d e->dc P K c' d e
 | .pa (.int _) c,d,e=>∀ ⦃n:Int⦄,dc P K c (d+1) (.i n :: e)
 | .pa .bool c,d,e=>∀ ⦃b:Bool⦄,dc P K c (d+1) (.b b :: e)
 | .pa .str c,d,e=>∀ ⦃s:ByteArray⦄,dc P K c (d+1) (.s s :: e)
 | .pa .ptr c,d,e=>∀ ⦃p:Option Addr⦄,dc P K c (d+1) (.o p :: e)
 | .pa .slice c',d,e=>∀ ⦃a:Option Addr⦄ ⦃l c:Nat⦄,dc P K c' (d+3) (.n c :: .n l :: .o a :: e)
 | .pa .map c,d,e=>∀ ⦃m:Option Nat⦄,dc P K c (d+1) (.m m :: e)
 | .pa .blk c,d,e=>∀ ⦃r:Nat⦄,dc P K c (d+1) (.n r :: e)
 | .pa .six c,d,e=>∀ ⦃u:I6⦄,dc P K c (d+1) (.u u :: e)
 | .pa .raw c,d,e=>∀ ⦃v:Value⦄,dc P K c (d+1) (.v v :: e)
 | .pw c,d,e=>∀ ⦃w:World⦄ ⦃K:KP⦄,dc P K c (d+1) (.w w :: e)
 | .st f l c,d,e=>dc P K c d e->Calls P f (dn (d-1) (tW e) l).L.toArray (gU e 0).W (yd K)
def lam{R:Type}:(ks:List SK)->Nat->List U->(Nat->List U->R)->TJ ks R
 | [],d,e,F=>F d e
 | .int _ :: ks,d,e,F=>λ n=>lam ks (d+1) (.i n :: e) F
 | .bool :: ks,d,e,F=>λ b=>lam ks (d+1) (.b b :: e) F
 | .str :: ks,d,e,F=>λ s=>lam ks (d+1) (.s s :: e) F
 | .ptr :: ks,d,e,F=>λ p=>lam ks (d+1) (.o p :: e) F
 | .slice :: ks,d,e,F=>λ a l c=>lam ks (d+3) (.n c :: .n l :: .o a :: e) F
 | .map :: ks,d,e,F=>λ m=>lam ks (d+1) (.m m :: e) F
 | .blk :: ks,d,e,F=>λ r=>lam ks (d+1) (.n r :: e) F
 | .six :: ks,d,e,F=>λ u=>lam ks (d+1) (.u u :: e) F
 | .raw :: ks,d,e,F=>λ v=>lam ks (d+1) (.v v :: e) F
def yo{R:Type}:(ks:List SK)->Nat->List U->(Nat->List U->R)->TJ ks R
 | [],d,e,F=>F d e
 | .int _ :: ks,d,e,F=>λ n=>yo ks (d+1) (.i n :: e) F
 | .bool :: ks,d,e,F=>λ b=>yo ks (d+1) (.b b :: e) F
 | .str :: ks,d,e,F=>λ s=>yo ks (d+1) (.s s :: e) F
 | .ptr :: ks,d,e,F=>λ p=>yo ks (d+1) (.o p :: e) F
 | .slice :: ks,d,e,F=>λ a l c=>yo ks (d+3) (.n c :: .n l :: .o a :: e) F
 | .map :: ks,d,e,F=>λ m=>yo ks (d+1) (.m m :: e) F
 | .blk :: ks,d,e,F=>λ r=>yo ks (d+1) (.n r :: e) F
 | .six :: ks,d,e,F=>λ u=>yo ks (d+1) (.u u :: e) F
 | .raw :: ks,d,e,F=>λ v=>yo ks (d+1) (.v v :: e) F
def wrap:List SK->Cn->Cn
 | [],c=>c
 | k :: ks,c=>.pa k (wrap ks c)
theorem kU{P:Program}{Q:KP}{c:Cn}{R:Type}{F G:Nat->List U->R}:∀ (ks:List SK) (d:Nat) (e:List U),lam ks d e F=yo ks d e G->(∀ d e,F d e=G d e->dc P Q c d e)->dc P Q (wrap ks c) d e
 | [],d,e,h,k=>k d e h
 | .int _ :: ks,d,e,h,k=>λ _=>kU ks _ _ (congrFun h _) k
 | .bool :: ks,d,e,h,k=>λ _=>kU ks _ _ (congrFun h _) k
 | .str :: ks,d,e,h,k=>λ _=>kU ks _ _ (congrFun h _) k
 | .ptr :: ks,d,e,h,k=>λ _=>kU ks _ _ (congrFun h _) k
 | .slice :: ks,d,e,h,k=>λ _ _ _=>kU ks _ _ (congrFun (congrFun (congrFun h _) _) _) k
 | .map :: ks,d,e,h,k=>λ _=>kU ks _ _ (congrFun h _) k
 | .blk :: ks,d,e,h,k=>λ _=>kU ks _ _ (congrFun h _) k
 | .six :: ks,d,e,h,k=>λ _=>kU ks _ _ (congrFun h _) k
 | .raw :: ks,d,e,h,k=>λ _=>kU ks _ _ (congrFun h _) k
def YP(P:Program)(c:Cn)(d:Nat)(e:List U):World->(KP)->Prop:=λ w K=>dc P K c (d+1) (.w w :: e)
def vcF(P:Program)(fn:Func)(ann:List (Nat×Live))(xs:X)(d:Nat)(e:List U):World->(KP)->Prop:=λ w K =>
 vc P (Bq ann) (gq fn) 1 (NG P fn K) ((dn d e xs).L++List.replicate (fn.ntmps-(dn d e xs).L.length) undef) [] w
def sV(P:Program)(f:FuncId)(c:Cf):Prop:=dc P (λ _ _=>True) (wrap c.ks (.pw (.st f c.xs c.c))) 0 []
def WG{P:Program}{f:FuncId}{fn:Func}(g:P.funcs[f]?=some fn)(b:fn.body=some (gq fn)){ann:List (Nat×Live)}{c:Cf}(i:lam c.ks 0 [] (YP P c.c)=yo c.ks 0 [] (vcF P fn ann c.xs)):sV P f c :=
 kU c.ks 0 [] i λ d e h w K a=>qZ (Bq ann) g b (congrFun (congrFun h w) K) a
structure En (P:Program) where
 f:FuncId
 fn:Func
 h:P.funcs[f]?=some fn
 ps:List (Nat×Pa)
 an:List (Nat×Live)
def en{P:Program}{f:FuncId}{fn:Func}(h:P.funcs[f]?=some fn)(ps:List (Nat×Pa))(an:List (Nat×Live)):En P:=⟨f,fn,h,ps,an⟩
def cmpL{P:Program}(T:Nat->Ud):List (En P)->List Cf
 | []=>[]
 | x :: l=>cmp T x.fn x.ps x.an :: cmpL T l
def HL:List Cf->Type
 | []=>Unit
 | c :: l=>(Option Code×TJ c.ks (World->(KP)->Prop))×HL l
def Sh(P:Program):List (En P)->(cs:List Cf)->HL cs
 | x :: l,c :: cs=>((x.fn.body,lam c.ks 0 [] (YP P c.c)),Sh P l cs)
 | [],c :: cs=>((none,lam c.ks 0 [] (YP P c.c)),Sh P [] cs)
 | [],[]=>()
 | _ :: _,[]=>()
def Si(P:Program):List (En P)->(cs:List Cf)->HL cs
 | x :: l,c :: cs=>((some (gq x.fn),yo c.ks 0 [] (vcF P x.fn x.an c.xs)),Si P l cs)
 | [],c :: cs=>((none,lam c.ks 0 [] (YP P c.c)),Si P [] cs)
 | [],[]=>()
 | _ :: _,[]=>()
def iP{P:Program}:List (En P)->List Cf->Prop
 | x :: l,c :: cs=>sV P x.f c/\iP l cs
 | _,_=>True
theorem K4{P:Program}:∀ (l:List (En P)) (cs:List Cf),Sh P l cs=Si P l cs->iP l cs
 | [],[],_=>trivial
 | [],_ :: _,_=>trivial
 | _ :: _,[],_=>trivial
 | x :: l,c :: cs,h=>⟨WG x.h (congrArg (λ p=>p.1.1) h) (congrArg (λ p=>p.1.2) h),K4 l cs (congrArg Prod.snd h)⟩
def many{P:Program}(T:Nat->Ud)(l:List (En P)){cs:List Cf}{S:Prop}(_:cmpL T l=cs)(h:Sh P l cs=Si P l cs)(k:iP l cs->S):S:=k (K4 l cs h)
end Go.Vt
namespace Go.Proofs.YtjcfdidmajodiaaGreatDoor
open Go Go.Vc Go.Vt _root_.Go.Proofs.Tryz
def tyT:Tr:=(.n (.tu []) (.n .o (.n (.it .i64) (.n (.st [2,3,4,6]) (.n (.pt 408) (.n (.sl 3) (.n .o .o (.n .o (.n .fn .o .o) .o)) (.n (.tu [3,2,3]) (.n (.st [156,157,3,4]) .o (.n (.it .i32) .o .o)) (.n (.tu [77,49]) .o .o))) (.n .o (.n (.st [57,77,77,78]) (.n (.st [73,24,75,57,77,78,78,4]) .o .o) .o) (.n .o .o (.n (.ar 65 5) .o .o)))) (.n (.st [2,3,3,3]) (.n .o (.n (.sl 141) (.n .o .o (.n (.it .i64) .o .o)) .o) (.n .ifc (.n .o (.n (.sl 338) .o .o) .o) .o)) (.n .o (.n (.st [73,24,85,57,77,78,78,4]) (.n .o .o (.n (.st [17,17,17,9]) .o .o)) .o) (.n (.st [3,42,2,88]) (.n (.tu [120,49]) (.n (.tu [310,49]) .o .o) .o) .o)))) (.n .sr (.n (.st [17]) (.n (.sl 54) (.n .o (.n (.pt 60) .o (.n (.st [5,5]) .o .o)) (.n (.st [9,49]) .o .o)) (.n (.sl 5) (.n .o (.n (.ar 6 3) .o .o) .o) .o)) (.n .o (.n .o .o (.n .o (.n (.tu [338,49]) .o .o) .o)) (.n (.tu [9,49]) (.n (.tu [87,49]) .o .o) (.n (.pt 73) .o .o)))) (.n .o (.n (.it .u64) (.n (.sl 80) (.n .o (.n (.pt 269) .o .o) .o) (.n (.tu [4,49]) .o .o)) .o) (.n (.st [3,3,3]) (.n .o (.n (.pt 5) (.n (.st [73,3,221]) .o .o) (.n (.st [409]) .o .o)) (.n .o (.n (.mp 2) .o .o) .o)) (.n (.ar 8 122) .o .o))))) (.n (.it .u8) (.n .sr (.n (.pt 418) (.n (.st [28,3,29,30,31]) (.n .o (.n .o .o (.n (.ar 256 5) .o .o)) (.n (.tu [99,9]) .o .o)) (.n (.st [57,77,77,78]) (.n (.st [9,43,3]) .o (.n (.st [12,12,238,412,5,5,413,414,155,415,416]) .o .o)) (.n (.tu [57,49]) .o .o))) (.n (.it .i64) (.n (.st [9,3,2,3]) (.n .o .o (.n (.st [9,9,103]) .o .o)) .o) (.n (.pt 159) (.n (.tu [73,3,49]) .o .o) .o))) (.n .o (.n (.ar 6 3) (.n (.st [68,69,70,71]) (.n (.st [3,3,3]) (.n (.tu [264,49]) .o .o) .o) .o) (.n .o .o (.n (.st [3,42,2]) (.n (.tu [21,3]) .o .o) .o))) (.n (.ar 6 2) (.n (.st [24,3,73,87,78,88,78,43,3,43]) (.n .o (.n (.tu [31,49]) .o .o) (.n (.ar 0 16) .o .o)) (.n (.st [57,42]) (.n (.st [319]) .o .o) .o)) (.n (.st [120,4,4]) .o (.n (.sl 2) .o .o))))) (.n (.st [9,12]) (.n (.it .i32) (.n (.st [28,3,29,35,31]) (.n (.sl 82) (.n (.st [9,3,2,3,3]) .o (.n (.tu [238,238]) .o .o)) (.n (.it .u64) (.n (.ar 64 5) .o .o) .o)) (.n (.st [98,99]) (.n .o .o (.n (.st [3,99,3,4,4,3]) .o .o)) (.n (.sl 233) (.n (.tu [42,3,49]) .o .o) .o))) (.n (.st [9,3,3,3,4,31]) (.n (.sl 97) (.n (.st [68,42]) .o (.n (.st [9]) .o .o)) (.n .o (.n (.st [295,49]) .o .o) .o)) (.n (.tu [45,49]) (.n .o (.n (.st [3,9,2,3]) .o .o) .o) .o))) (.n (.sl 57) (.n (.st [3,3,3,42,9,43]) (.n (.sl 42) (.n (.st [3,3,3]) (.n (.st [264,49]) .o .o) (.n (.mp 4) .o .o)) (.n .o (.n (.st [31,249]) .o .o) .o)) (.n .o (.n .o (.n (.st [68,298]) .o .o) .o) (.n (.ar 20 43) (.n (.tu [249,31]) .o .o) .o))) (.n (.ar 8 60) (.n (.tu [90,49]) (.n (.sl 161) .o (.n (.it .u8) .o .o)) (.n (.sl 218) .o .o)) (.n (.st [24,3,73,66,123,43,3,43]) .o (.n (.tu [42,42]) .o .o))))))) (.n (.it .i64) (.n .bo (.n (.st [2,3,4,6]) (.n (.pt 411) (.n (.st [28,3,29,30,31]) .o (.n .o (.n (.st [9,43,3]) .o (.n (.it .i32) .o .o)) .o)) (.n .o (.n (.st [57,77,77,78]) (.n (.st [73,24,75,57,77,78,78,4]) .o (.n (.st [9,9,103]) .o .o)) (.n .o (.n (.ar 2 77) .o .o) .o)) .o)) (.n (.st [2,3,3,3]) (.n .o (.n (.st [68,69,70,71]) (.n .o (.n (.sl 310) .o .o) (.n (.tu [2,103]) .o .o)) (.n (.tu [66,49]) .o .o)) (.n (.tu [3,103]) (.n .o (.n (.tu [295,49]) .o .o) .o) (.n (.st [3,42,2]) .o .o))) (.n (.ar 6 2) (.n (.sl 120) (.n .o .o (.n (.st [17,17,17,9]) .o .o)) .o) (.n (.st [3,42,2,88]) .o .o)))) (.n (.it .u64) (.n .ifc (.n (.st [28,3,29,35,31]) (.n (.sl 134) (.n .o .o (.n (.ar 16 387) .o .o)) (.n (.st [9,49]) (.n (.ar 32 5) .o .o) .o)) (.n (.st [98,99]) .o .o)) (.n .o (.n .o (.n (.st [68,42]) .o (.n (.pt 406) .o .o)) (.n (.tu [73,49]) .o .o)) .o)) (.n (.ar 11 3) (.n (.st [3,3,3,42,9,43]) (.n .o (.n (.st [3,3,3]) (.n (.st [264,49]) .o .o) .o) (.n .o (.n (.st [31,249]) .o .o) .o)) (.n (.sl 9) (.n .o (.n (.st [68,298]) .o .o) .o) .o)) (.n (.st [3,3,3]) (.n (.ar 8 3) (.n (.pt 422) (.n (.st [73,3,221]) .o .o) (.n (.it .u8) .o .o)) (.n .o (.n (.mp 2) .o .o) .o)) (.n (.st [24,3,73,66,123,43,3,43]) .o .o))))) (.n (.it .u8) (.n .sr (.n (.st [17]) (.n .o (.n (.pt 144) (.n .o .o (.n (.st [5,5]) .o .o)) .o) (.n (.pt 101) (.n (.pt 196) .o (.n (.st [12,12,238,412,5,5,413,414,155,415,416]) .o .o)) .o)) (.n (.tu [37,49]) (.n (.st [9,3,2,3]) .o (.n .o (.n (.st [3,9,2,3]) .o .o) .o)) (.n .o (.n .o (.n (.tu [2,49]) .o .o) .o) .o))) (.n .o (.n (.ar 6 3) (.n .o (.n (.st [3,3,3]) .o (.n (.pt 401) .o .o)) .o) (.n .o (.n .o (.n (.pt 342) .o .o) .o) (.n (.tu [3,49]) .o .o))) (.n (.st [9,3,3,3,4,31]) (.n (.st [24,3,73,87,78,88,78,43,3,43]) (.n (.ar 11 9) .o (.n (.st [409]) .o .o)) (.n (.st [57,42]) (.n (.st [319]) .o .o) .o)) (.n (.st [120,4,4]) (.n .o (.n (.tu [42,2]) .o .o) .o) (.n (.tu [249,49]) .o .o))))) (.n (.st [9,12]) (.n (.sl 45) (.n .o (.n (.sl 138) (.n (.st [9,3,2,3,3]) .o .o) .o) (.n .ifc (.n .o .o (.n (.st [3,99,3,4,4,3]) .o .o)) (.n (.tu [229,49]) .o .o))) (.n (.st [9,3,3,3,4,31]) (.n (.st [73,24,85,57,77,78,78,4]) (.n .o .o (.n (.st [9]) .o .o)) (.n .o (.n (.st [295,49]) .o .o) .o)) (.n .o (.n .o (.n (.st [3,9,2,3]) .o .o) .o) .o))) (.n (.sl 58) (.n .o (.n (.sl 4) (.n .o .o (.n (.tu [43,103]) .o .o)) (.n (.tu [3,4]) (.n (.tu [333,4]) .o .o) .o)) (.n .o .o (.n (.it .u32) .o .o))) (.n (.pt 125) (.n .o (.n (.st [156,157,3,4]) .o (.n .fn .o .o)) .o) (.n .o (.n (.ar 24 5) .o .o) .o)))))))
def uj(n:Nat):Ud:=ZT 12 tyT n
end Go.Proofs.YtjcfdidmajodiaaGreatDoor
set_option maxHeartbeats 4000000
namespace Go.Proofs.YtjcfdidmajodiaaGreatDoor
open Go Go.Vc Go.Vt _root_.Go.Proofs.Tryz
def p6{A B C D E F G:Prop}(h:A/\B/\C/\D/\E/\F/\G):G:=h.2.2.2.2.2.2
def uB:=many uj [en func237 [] [],en func173 [] [],en func175 [] [],en func174 [] [(28,[(7,.s (.int .i64))]),(112,[(20,.s .bool)])],en func125 [] [],en func128 [] [(122,[(3,.s (.int .i64)),(10,.s (.int .i64))])],en func73 [] [(26,[(6,.s (.int .i64))]),(1689,[(14,.s .bool)])],en func127 [] [],en func126 [] [(26,[(10,.s (.int .i64))])],en func129 [] [(58,[(8,.s (.int .i64))]),(467,[])],en func88 [] [(58,[(17,.s (.int .i64))]),(14951,[(57,.s .bool)])],en func264 [] [(26,[(10,.s (.int .i64))])],en func206 [] [(58,[(17,.s (.int .i64))]),(14951,[(63,.s .bool)])],en func207 [] [(58,[(14,.s (.int .i64))]),(7474,[(29,.s .bool)]),(14950,[(47,.s .bool)]),(59806,[(53,.s (.int .i64))]),(3827609,[(68,.s .bool)])],en func208 [] [(58,[(14,.s (.int .i64))]),(7474,[(29,.s .bool)]),(14950,[(54,.s .bool)]),(59806,[(60,.s (.int .i64))])]] (by conv=>lhs;reduce) (by kernel_rfl) λ x=>by
 dsimp only[fj,fh,ff,fe,fk,fm,fq,tF,iP,en,sV,wrap,dc,dn,qA,gU,tW,U.I,U.B,U.S,U.N,U.A,U.O,U.W,U.V,U.L,U.U6,U.C,U.M,U.F,U.E,tP,tN,tI,oo,jU,gJ,kr,jq,TJ,Nat.reduceSub,Nat.reduceAdd,Int.reduceOfNat,Int.reduceNeg,UInt8.reduceOfNat] at x
 exact x
def Gk:=uB.2.2.2.1
def Cx:=(p6 uB).2.2.1
def Cy:=(p6 uB).2.2.2.2.2.1
def Zs:=many uj [en func157 [] []] (by conv=>lhs;reduce) (by kernel_rfl) λ x=>by
 dsimp only[fj,fh,ff,fe,fk,fm,fq,tF,iP,en,sV,wrap,dc,dn,qA,gU,tW,U.I,U.B,U.S,U.N,U.A,U.O,U.W,U.V,U.L,U.U6,U.C,U.M,U.F,U.E,tP,tN,tI,oo,jU,gJ,kr,jq,TJ,Nat.reduceSub,Nat.reduceAdd,Int.reduceOfNat,Int.reduceNeg,UInt8.reduceOfNat] at x
 exact x
