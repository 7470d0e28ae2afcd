/- Plain law of wire.Reader: the numbers that bytes make. -/
/- Plain law of Decode: the program's and the reference's both are 'decV'; the pure statement of TextDecodes. -/
/- Plain law of modified UTF-8: what a text's bytes are ('encL'), and that the program's Encode comes to them. -/
/- Plain law of there and back: what is encoded is decoded as itself, and what is decoded is encoded as itself. -/
/- Plain law of a pool's places: does a place lead to a tag, and to which text. -/
/- Plain law of pool.Check: what the program's check comes to. -/
/- Plain law of pool.Decode: what the program's comes to. -/
/- Plain law of modified UTF-8: what a text's bytes are ('encL'), and that the program's Encode and the reference's both come to them. -/
/- Plain law of the reference's check of a pool: it comes to the same. -/
/- Layer 4's law: the program computes at all. -/
/- Plain law of Decode, the reference's side. -/
/- The pure statement of PoolDecodes: the reference's Decode comes to the same. -/
import Derived.Test.YtglnhkgodgjepaaDoorM5
import Derived.Laws.BitsLemmas
import Derived.Test.YtglnhkgodgjepaaDoorM1
import Derived.Test.YtglnhkgodgjepaaDoorM4
import Derived.Lib.ValidLaws
import Derived.Lib.DecodeN
import Derived.Lib.MapLaws
import Derived.Lib.Strings
import Derived.Test.YtglnhkgodgjepaaDoorM2
import Derived.Test.YtglnhkgodgjepaaDoorM3
namespace Go.Proofs.YtglnhkgodgjepaaDoor.Px
open Go.RowKit Go.Proofs.YtglnhkgodgjepaaDoorW.PrintWords Go.Proofs.YtglnhkgodgjepaaDoorW.PrintLast Go.Proofs.YtglnhkgodgjepaaDoorW.PrintMore
set_option linter.unusedVariables false
set_option linter.unusedSimpArgs false
def beV (l:List Int):Int:=l.foldl (fun x c => x * 256 + c) 0
theorem beV_snoc (l:List Int) (c:Int):beV (l++[c])=beV l * 256 + c:=by simp [beV]
theorem beV_range (l:List Int) (h:IsBytes l):0≤beV l∧beV l < 256 ^ l.length:=by
 have key:∀ n (l:List Int),l.length=n→IsBytes l→0≤beV l∧beV l < 256 ^ l.length:=by
  intro n
  induction n with
  | zero => intro l hl _;obtain rfl:=List.eq_nil_of_length_eq_zero hl;exact ⟨by decide,by decide⟩
  | succ n ih =>
   intro l hl hb
   obtain ⟨l',c,rfl⟩:∃ l' c,l=l'++[c]:=⟨l.dropLast,l.getLast (by intro e;rw [e] at hl;simp at hl),(List.dropLast_concat_getLast _).symm⟩
   have hc:=hb c (by simp)
   have h1:=ih l' (by simp at hl;exact hl) (fun x hx => hb x (by simp [hx]))
   rw [beV_snoc,List.length_append,List.length_singleton,Int.pow_succ]
   omega
 exact key _ l rfl h
theorem pow256 {i:Nat} (h:i≤7):(256:Int) ^ i≤72057594037927936:=by
 obtain rfl|rfl|rfl|rfl|rfl|rfl|rfl|rfl:i=0 ∨ i=1 ∨ i=2 ∨ i=3 ∨ i=4 ∨ i=5 ∨ i=6 ∨ i=7:=by omega
 all_goals decide
theorem wraps_u64 (n:Int) (h0:0≤n) (h1:n < 2 ^ 64):IntKind.u64.wrap n=n:=by
 simp [IntKind.wrap,IntKind.bits,IntKind.signed]
 omega
theorem or_u64 {y c:Int} (h0:0≤y) (h1:y < 18446744073709551616) (hm:y % 256=0) (c0:0≤c) (c1:c < 256):bits .or .u64 y c=y + c :=
 bits_join .u64 64 (by decide) wraps_u64 8 y c h0 hm h1 c0 c1 (by omega)
theorem or_i64 {y c:Int} (h0:-9223372036854775808≤y) (h1:y < 9223372036854775808) (hm:y % 256=0) (c0:0≤c) (c1:c < 256):bits .or .i64 y c=y + c:=by
 obtain ⟨b,rfl⟩:=Int.eq_ofNat_of_zero_le c0
 have hb:b < 256:=by omega
 obtain ⟨a,ha⟩:∃ a:Nat,y % 18446744073709551616=(a:Int):=Int.eq_ofNat_of_zero_le (by omega)
 have ha2:a < 18446744073709551616:=by omega
 have ham:a % 2 ^ 8=0:=by omega
 have e1:(BitVec.ofInt 64 y).toNat=a:=by
  rw [BitVec.toNat_ofInt]
  have:y % ((2 ^ 64:Nat):Int)=(a:Int):=ha
  rw [this]
  rfl
 have e2:(BitVec.ofInt 64 (b:Int)).toNat=b:=by
  rw [BitVec.ofInt_natCast,BitVec.toNat_ofNat]
  exact Nat.mod_eq_of_lt (by omega)
 have hor:a ||| b=a + b:=by
  have hq:a=2 ^ 8 * (a / 2 ^ 8):=by have:=Nat.div_add_mod a (2 ^ 8);omega
  rw [hq]
  exact (Nat.two_pow_add_eq_or_of_lt (by omega) (a / 2 ^ 8)).symm
 have hbits:bits .or .i64 y (b:Int)=IntKind.i64.wrap (((a ||| b:Nat)):Int):=by
  have e3:(BitVec.ofInt 64 y ||| BitVec.ofInt 64 (b:Int)).toNat=a ||| b:=by rw [BitVec.toNat_or,e1,e2]
  show IntKind.i64.wrap ((BitVec.ofInt 64 y ||| BitVec.ofInt 64 (b:Int)).toNat:Int)=_
  rw [e3]
 rw [hbits,hor,IntKind.wrap_i64]
 omega
theorem rd_take {l:List Int} {i:Nat} (h:i < l.length):l.take (i + 1)=l.take i++[rd l (i:Int)]:=by
 rw [List.take_succ_eq_append_getElem h]
 congr 1
 unfold rd
 rw [Int.toNat_natCast,List.getD_eq_getElem?_getD,List.getElem?_eq_getElem h]
 rfl
theorem gather_u64.ev_l (l:List Int) (hb:IsBytes l) (h8:l.length≤8):∀ n (i:Nat),l.length≤i + n→i≤l.length→Ev (fun k => wire_gather_uint64.l0 k (beV (l.take i)) l (l.length:Int) (i:Int)) (beV l):=by
 have stop:∀ i:Nat,i=l.length→Ev (fun k => wire_gather_uint64.l0 k (beV (l.take i)) l (l.length:Int) (i:Int)) (beV l):=by
  intro i hi
  refine Ev.step (f:=fun _ => some (beV (l.take i))) (fun k => by simp only [wire_gather_uint64.l0];rw [if_neg (by omega)]) ?_
  rw [hi,List.take_length]
  exact Ev.now _
 intro n
 induction n with
 | zero => intro i h hi;exact stop i (by omega)
 | succ n ih =>
  intro i h hi
  by_cases hlt:i < l.length
  ·have hA:l.length≤i + 1 + n:=by omega
   have hB:i + 1≤l.length:=by omega
   have hC:(i:Int) < (l.length:Int):=by omega
   have hD:(0:Int)≤(i:Int):=by omega
   have hr:=beV_range (l.take i) (hb.take i)
   rw [List.length_take,Nat.min_eq_left (by omega)] at hr
   have hp:=pow256 (i:=i) (by omega)
   have hc:=rd_byte hb (i:Int)
   have e1:IntKind.u64.wrap (beV (l.take i) * 256)=beV (l.take i) * 256:=wraps_u64 _ (by omega) (by omega)
   have e2:IntKind.u64.wrap (rd l (i:Int))=rd l (i:Int):=wraps_u64 _ hc.1 (by omega)
   have e3:bits .or .u64 (beV (l.take i) * 256) (rd l (i:Int))=beV (l.take (i + 1)):=by
    rw [or_u64 (by omega) (by omega) (by omega) hc.1 hc.2,rd_take hlt,beV_snoc]
   have e4:wrap64 ((i:Int) + 1)=((i + 1:Nat):Int):=by unfold wrap64;omega
   refine Ev.step (f:=fun k => wire_gather_uint64.l0 k (beV (l.take (i + 1))) l (l.length:Int) ((i + 1:Nat):Int)) (fun k => ?_) (ih (i + 1) hA hB)
   simp only [wire_gather_uint64.l0]
   rw [if_pos hC,if_pos hD,if_pos hC,e1,e2,e3,e4]
  ·exact stop i (by omega)
theorem gather_u64.ev (l:List Int) (hb:IsBytes l) (h8:l.length≤8):Ev (fun k => wire_gather_uint64.f k l 0) (beV l):=gather_u64.ev_l l hb h8 l.length 0 (by omega) (by omega)
theorem gather_i64.ev_l (l:List Int) (hb:IsBytes l) (h7:l.length≤7) (s:Int) (s0:-128≤s) (s1:s < 128):∀ n (i:Nat),l.length≤i + n→i≤l.length→Ev (fun k => wire_gather_int64.l0 k (s * 256 ^ i + beV (l.take i)) l (l.length:Int) (i:Int)) (s * 256 ^ l.length + beV l):=by
 have stop:∀ i:Nat,i=l.length→Ev (fun k => wire_gather_int64.l0 k (s * 256 ^ i + beV (l.take i)) l (l.length:Int) (i:Int)) (s * 256 ^ l.length + beV l):=by
  intro i hi
  refine Ev.step (f:=fun _ => some (s * 256 ^ i + beV (l.take i))) (fun k => by simp only [wire_gather_int64.l0];rw [if_neg (by omega)]) ?_
  rw [hi,List.take_length]
  exact Ev.now _
 intro n
 induction n with
 | zero => intro i h hi;exact stop i (by omega)
 | succ n ih =>
  intro i h hi
  by_cases hlt:i < l.length
  ·have hA:l.length≤i + 1 + n:=by omega
   have hB:i + 1≤l.length:=by omega
   have hC:(i:Int) < (l.length:Int):=by omega
   have hD:(0:Int)≤(i:Int):=by omega
   have hr:=beV_range (l.take i) (hb.take i)
   rw [List.length_take,Nat.min_eq_left (by omega)] at hr
   have hp:1≤(256:Int) ^ i∧(256:Int) ^ i≤281474976710656:=by
    obtain rfl|rfl|rfl|rfl|rfl|rfl|rfl:i=0 ∨ i=1 ∨ i=2 ∨ i=3 ∨ i=4 ∨ i=5 ∨ i=6:=by omega
    all_goals decide
   have hs:-128 * 256 ^ i≤s * 256 ^ i∧s * 256 ^ i≤127 * 256 ^ i :=
    ⟨Int.mul_le_mul_of_nonneg_right s0 (by omega),Int.mul_le_mul_of_nonneg_right (by omega) (by omega)⟩
   have hc:=rd_byte hb (i:Int)
   have e1:wrap64 ((s * 256 ^ i + beV (l.take i)) * 256)=(s * 256 ^ i + beV (l.take i)) * 256:=by unfold wrap64;omega
   have e2:wrap64 (rd l (i:Int))=rd l (i:Int):=by unfold wrap64;omega
   have e3:bits .or .i64 ((s * 256 ^ i + beV (l.take i)) * 256) (rd l (i:Int))=s * 256 ^ (i + 1) + beV (l.take (i + 1)):=by
    rw [or_i64 (by omega) (by omega) (by omega) hc.1 hc.2,rd_take hlt,beV_snoc,Int.pow_succ,← Int.mul_assoc]
    omega
   have e4:wrap64 ((i:Int) + 1)=((i + 1:Nat):Int):=by unfold wrap64;omega
   refine Ev.step (f:=fun k => wire_gather_int64.l0 k (s * 256 ^ (i + 1) + beV (l.take (i + 1))) l (l.length:Int) ((i + 1:Nat):Int)) (fun k => ?_) (ih (i + 1) hA hB)
   simp only [wire_gather_int64.l0]
   rw [if_pos hC,if_pos hD,if_pos hC,e1,e2,e3,e4]
  ·exact stop i (by omega)
theorem gather_i64.ev (l:List Int) (hb:IsBytes l) (h7:l.length≤7) (s:Int) (s0:-128≤s) (s1:s < 128):Ev (fun k => wire_gather_int64.f k l s) (s * 256 ^ l.length + beV l):=by
 have h:=gather_i64.ev_l l hb h7 s s0 s1 l.length 0 (by omega) (by omega)
 have e:s * 256 ^ 0 + beV (l.take 0)=s:=by simp [beV]
 rw [e] at h
 exact h
theorem rdL_bytes {bs:List Int} (h:IsBytes bs) (p n:Nat):IsBytes (rdL bs p n):=by
 unfold rdL
 split
 ·exact (h.take _).drop _
 ·intro x hx;cases hx
theorem rdL_le (bs:List Int) (p n:Nat):(rdL bs p n).length≤n:=by
 unfold rdL
 split
 ·rw [List.length_drop,List.length_take];omega
 ·exact Nat.zero_le _
theorem beV_cons (b:Int) (l:List Int):beV (b :: l)=b * 256 ^ l.length + beV l:=by
 have key:∀ (l:List Int) (x:Int),l.foldl (fun x c => x * 256 + c) x=x * 256 ^ l.length + beV l:=by
  intro l
  induction l with
  | nil => intro x;simp [beV]
  | cons c l ih =>
   intro x
   rw [List.foldl_cons,ih]
   have e:beV (c :: l)=(0 * 256 + c) * 256 ^ l.length + beV l:=by unfold beV;rw [List.foldl_cons,ih];rfl
   rw [e,List.length_cons,Int.pow_succ,Int.add_mul,Int.zero_mul,Int.zero_add,Int.mul_assoc x 256,Int.mul_comm 256,Int.add_assoc]
 have h:=key l (0 * 256 + b)
 unfold beV
 rw [List.foldl_cons,h]
 simp [beV]
def intV (l:List Int):Int:=if rd l 0 < 128 then beV l else beV l - 256 ^ l.length
theorem uint.ev (bs:List Int) (hb:IsBytes bs) (p n:Nat) (h8:n≤8):Ev (fun k => rd_Uint.f k bs p n) (beV (rdL bs p n),rdE bs p n,rdP bs p n):=by
 have:=rdL_le bs p n
 exact Ev.bind (gather_u64.ev _ (rdL_bytes hb p n) (by omega)) (Ev.now _)
def iV (bs:List Int) (p n:Nat):Int × Int × Nat:=if p + n≤bs.length then (intV (rdL bs p n),0,p + n) else (0,3,p)
theorem intV_cons (b:Int) (t:List Int):(if b < 128 then b else b - 256) * 256 ^ t.length + beV t=intV (b :: t):=by
 have h0:rd (b :: t) 0=b:=rfl
 unfold intV
 rw [h0,beV_cons,List.length_cons,Int.pow_succ]
 split
 ·rfl
 ·rw [Int.sub_mul,Int.mul_comm _ 256];omega
theorem int.ev (bs:List Int) (hb:IsBytes bs) (p n:Nat) (h1:1≤n) (h8:n≤8):Ev (fun k => rd_Int.f k bs p n) (iV bs p n):=by
 unfold rd_Int.f iV
 by_cases h:p + n≤bs.length
 ·have hl:=rdL_len h
  have hbb:=rdL_bytes hb p n
  generalize rdL bs p n=l at hl hbb
  rw [if_pos h]
  cases l with
  | nil => simp at hl;omega
  | cons b t =>
   have hc:=hbb b (List.mem_cons_self)
   have h0:rd (b :: t) 0=b:=rfl
   rw [h0]
   refine Ev.congr (fun k => (if_pos h).trans (if_pos hc)) ?_
   rw [sx8_eq hc.1 hc.2,← intV_cons]
   refine Ev.bind (gather_i64.ev t (fun x hx => hbb x (List.mem_cons_of_mem _ hx)) (by simp at hl;omega) _ (by split <;> omega) (by split <;> omega)) (Ev.now _)
 ·rw [if_neg h]
  exact Ev.congr (fun k => if_neg h) (Ev.now _)
end Go.Proofs.YtglnhkgodgjepaaDoor.Px
namespace Go.Proofs.YtglnhkgodgjepaaDoor.Px
open Go.RowKit Go.Proofs.YtglnhkgodgjepaaDoorW.PrintWords Go.Proofs.YtglnhkgodgjepaaDoorW.PrintLast Go.Proofs.YtglnhkgodgjepaaDoorW.PrintMore
set_option linter.unusedVariables false
set_option linter.unusedSimpArgs false
def utf8L (v:Int):List Int :=
 if v < 128 then [v] else if v < 2048 then [192 + v / 64,128 + v % 64] else if v < 65536 then [224 + v / 4096,128 + v / 64 % 64,128 + v % 64]
 else [240 + v / 262144,128 + v / 4096 % 64,128 + v / 64 % 64,128 + v % 64]
theorem utf8L_len (v:Int):(utf8L v).length≤4:=by
 unfold utf8L
 split
 ·simp
 ·split
  ·simp
  ·split <;> simp
theorem utf8_AppendRune.ev (o:List Int) (v:Int) (h0:0≤v) (h1:v≤1114111) (hs:v < 55296 ∨ 57344≤v) (ho:o.length + 4 < 140737488355328):Ev (fun k => utf8_AppendRune.f k o v) (o++utf8L v):=by
 refine ⟨1,fun k hk => ?_⟩
 obtain ⟨k,rfl⟩:∃ m,k=m + 1:=⟨k - 1,by omega⟩
 show utf8_AppendRune.f (k + 1) o v=_
 unfold utf8_AppendRune.f utf8L
 rw [show v % 4294967296=v by omega]
 by_cases c1:v≤127
 ·rw [if_pos c1,if_pos (by omega),if_pos (by omega),show v % 256=v by omega]
 ·rw [if_neg c1,if_neg (by omega)]
  unfold utf8_appendRuneNonASCII.f
  rw [show v % 4294967296=v by omega]
  by_cases c2:v≤2047
  ·rw [if_pos c2,if_pos (by omega),Option.bind_some,if_pos (by simp;omega),show v / 64 % 256=v / 64 by omega,u8_or192 _ (by omega) (by omega)]
   rfl
  ·rw [if_neg c2,if_neg (show ¬ v < 2048 by omega)]
   have key3:v < 65536→utf8_appendRuneNonASCII.j0 (k + 1) o v v true=some (o++[224 + v / 4096,128 + v / 64 % 64,128 + v % 64]):=by
    intro h
    simp only [utf8_appendRuneNonASCII.j0,if_true]
    rw [Option.bind_some,if_pos (by simp;omega),show v / 4096 % 256=v / 4096 by omega,u8_or224 _ (by omega) (by omega)]
   have key4:65536≤v→utf8_appendRuneNonASCII.j0 (k + 1) o v v false=some (o++[240 + v / 262144,128 + v / 4096 % 64,128 + v / 64 % 64,128 + v % 64]):=by
    intro h
    simp only [utf8_appendRuneNonASCII.j0,Bool.false_eq_true,if_false]
    rw [if_pos (by omega),if_pos (by omega),Option.bind_some,if_pos (by simp;omega),show v / 262144 % 256=v / 262144 by omega,u8_or240 _ (by omega) (by omega)]
   by_cases c3:v < 55296
   ·rw [if_pos c3,decide_eq_true c3,key3 (by omega),if_pos (by omega)]
    rfl
   ·rw [if_neg c3,if_pos (by omega)]
    by_cases c4:v≤65535
    ·rw [decide_eq_true c4,key3 (by omega),if_pos (by omega)]
     rfl
    ·rw [decide_eq_false c4,key4 (by omega),if_neg (by omega)]
     rfl
def pairN (a u:Int):Int:=65536 + (a - 55296) * 1024 + (u - 56320)
abbrev badV:ByteArray × Int:=((⟨#[]⟩:ByteArray),20)
def decV:Nat→List Int→List Int→ByteArray × Int
 | 0,_,_ => badV
 | n + 1,L,o =>
  if L=[] then (strOfNums o,0)
  else match takeV L with
   | none => badV
   | some (v,m) =>
    if 56320≤v∧v≤57343 then badV
    else if v < 55296 ∨ 56319 < v then decV n (L.drop m) (o++utf8L v)
    else if L.drop m=[] then badV
    else match takeV (L.drop m) with
     | none => badV
     | some (u,q) => if 56320≤u∧u≤57343 then decV n ((L.drop m).drop q) (o++utf8L (pairN v u)) else badV
theorem takeV_ok {L:List Int} (hL:IsBytes L) {v:Int} {m:Nat} (h:takeV L=some (v,m)):0≤v∧v < 65536∧1≤m∧m≤3∧m≤L.length:=by
 have h0:=rd_byte hL 0
 have h1:=rd_byte hL 1
 have h2:=rd_byte hL 2
 have hl:1≤rd L 0→1≤L.length:=by
  intro hh
  cases L with
  | nil => simp [rd] at hh
  | cons a t => simp
 unfold takeV V2 V3 at h
 split at h
 ·cases h;omega
 ·split at h
  ·cases h;omega
  ·split at h
   ·cases h;omega
   ·cases h
theorem takeV_len {L:List Int} (hL:IsBytes L) {v:Int} {m:Nat} (h:takeV L=some (v,m)):(utf8L v).length≤m∧(2048≤v→m=3):=by
 have h0:=rd_byte hL 0
 have h1:=rd_byte hL 1
 have h2:=rd_byte hL 2
 unfold takeV V2 V3 at h
 unfold utf8L
 split at h
 ·cases h
  rw [if_pos (by omega)]
  exact ⟨Nat.le_refl _,by omega⟩
 ·split at h
  ·cases h
   refine ⟨?_,by omega⟩
   split
   ·simp
   ·rw [if_pos (by omega)];simp
  ·split at h
   ·cases h
    refine ⟨?_,fun _ => rfl⟩
    rw [if_neg (by omega),if_neg (by omega),if_pos (by omega)]
    simp
   ·cases h
theorem len_pos {L:List Int} (h:L ≠ []):0 < L.length:=List.length_pos_iff.2 h
theorem text_Decode.ev_l:∀ (n:Nat) (L o:List Int),IsBytes L→L.length < n→o.length + L.length + 8 < 140737488355328→Ev (fun k => text_Decode.l0 k L 0 o) (decV n L o):=by
 intro n
 induction n with
 | zero => intro L o _ h;omega
 | succ n ih =>
  intro L o hL hn ho
  simp only [decV]
  have hround:∀ (L:List Int) (a:Int),0 < L.length→∀ k,text_Decode.l0 (k + 1) L a o=(text_next.f k L).bind fun t =>
    if t.2.1=true then
     (if ((decide (56320≤t.1) && decide (t.1 < 57344)) != (a != 0))=true then some badV
     else if (a != 0)=true then (utf8_AppendRune.f k o (pairV a t.1)).bind fun o1 => text_Decode.l0 k (L.drop t.2.2) 0 o1
     else if (decide (55296≤t.1) && decide (t.1 < 56320))=true then text_Decode.l0 k (L.drop t.2.2) t.1 o
     else (utf8_AppendRune.f k o t.1).bind fun o1 => text_Decode.l0 k (L.drop t.2.2) a o1)
    else some badV:=by
   intro L a hp k
   simp only [text_Decode.l0]
   rw [if_pos hp]
  by_cases he:L=[]
  ·subst he
   refine Ev.step (f:=fun _ => some (strOfNums o,0)) (fun k => ?_) (Ev.now _)
   simp [text_Decode.l0]
  ·have hp:=len_pos he
   rw [if_neg he]
   obtain ⟨x,y,ht⟩:=text_next.ev L hL hp
   refine Ev.step (hround L 0 hp) ?_
   refine Ev.bind ht ?_
   cases e:takeV L with
   | none => simp only [Bool.false_eq_true,if_false];exact Ev.now _
   | some p =>
    obtain ⟨v,m⟩:=p
    obtain ⟨v0,v1,m1,m3,ml⟩:=takeV_ok hL e
    have hd:(L.drop m).length=L.length - m:=List.length_drop
    simp only [if_true]
    have ha:((0:Int) != 0)=false:=rfl
    simp only [ha,Bool.false_eq_true,if_false]
    by_cases c1:56320≤v∧v≤57343
    ·rw [if_pos c1]
     refine Ev.congr (f:=fun _ => some badV) (fun k => ?_) (Ev.now _)
     rw [if_pos (by rw [decide_eq_true c1.1,decide_eq_true (show v < 57344 by omega)];rfl)]
    ·rw [if_neg c1]
     have hlow:(decide (56320≤v) && decide (v < 57344))=false:=by
      by_cases c:56320≤v
      ·rw [decide_eq_false (show ¬ v < 57344 by omega),Bool.and_false]
      ·rw [decide_eq_false c,Bool.false_and]
     have hne:¬ ((decide (56320≤v) && decide (v < 57344)) != false)=true:=by rw [hlow];decide
     by_cases c2:v < 55296 ∨ 56319 < v
     ·rw [if_pos c2]
      have hhi:¬ (decide (55296≤v) && decide (v < 56320))=true:=by
       rw [Bool.and_eq_true,decide_eq_true_eq,decide_eq_true_eq];omega
      have hu:=(takeV_len hL e).1
      refine Ev.congr (f:=fun k => (utf8_AppendRune.f k o v).bind fun o1 => text_Decode.l0 k (L.drop m) 0 o1) (fun k => (if_neg hne).trans (if_neg hhi)) ?_
      exact Ev.bind (utf8_AppendRune.ev o v v0 (by omega) (by omega) (by omega)) (ih _ _ (hL.drop m) (by omega) (by rw [List.length_append];omega))
     ·rw [if_neg c2]
      have hhi:(decide (55296≤v) && decide (v < 56320))=true:=by
       rw [Bool.and_eq_true,decide_eq_true_eq,decide_eq_true_eq];omega
      refine Ev.congr (f:=fun k => text_Decode.l0 k (L.drop m) v o) (fun k => (if_neg hne).trans (if_pos hhi)) ?_
      have hv:(v != 0)=true:=bne_iff_ne.mpr (by omega)
      by_cases c3:L.drop m=[]
      ·rw [if_pos c3,c3]
       refine Ev.step (f:=fun _ => some badV) (fun k => ?_) (Ev.now _)
       simp only [text_Decode.l0]
       rw [if_neg (by simp),if_pos hv]
      ·rw [if_neg c3]
       have hp2:=len_pos c3
       obtain ⟨x2,y2,ht2⟩:=text_next.ev _ (hL.drop m) hp2
       refine Ev.step (hround (L.drop m) v hp2) ?_
       refine Ev.bind ht2 ?_
       cases e2:takeV (L.drop m) with
       | none => simp only [Bool.false_eq_true,if_false];exact Ev.now _
       | some p =>
        obtain ⟨u,q⟩:=p
        obtain ⟨u0,u1,q1,q3,ql⟩:=takeV_ok (hL.drop m) e2
        simp only [if_true,hv]
        by_cases c4:56320≤u∧u≤57343
        ·rw [if_pos c4]
         have hw:pairV v u=pairN v u:=by
          unfold pairV pairN
          rw [w32 (x:=v - 55296) (by omega) (by omega),w32 (x:=(v - 55296) * 1024) (by omega) (by omega),w32 (x:=65536 + (v - 55296) * 1024) (by omega) (by omega),w32 (x:=65536 + (v - 55296) * 1024 + u) (by omega) (by omega),w32 (by omega) (by omega)]
          omega
         have hr:65536≤pairN v u∧pairN v u≤1114111:=by unfold pairN;omega
         have hu:=utf8L_len (pairN v u)
         have hm3:=(takeV_len hL e).2 (by omega)
         have hq3:=(takeV_len (hL.drop m) e2).2 (by omega)
         have hd2:((L.drop m).drop q).length=L.length - m - q:=by rw [List.length_drop,hd]
         have hl2:¬ ((decide (56320≤u) && decide (u < 57344)) != true)=true:=by
          rw [decide_eq_true c4.1,decide_eq_true (show u < 57344 by omega)];decide
         refine Ev.congr (f:=fun k => (utf8_AppendRune.f k o (pairN v u)).bind fun o1 => text_Decode.l0 k ((L.drop m).drop q) 0 o1) (fun k => by rw [if_neg hl2,hw]) ?_
         exact Ev.bind (utf8_AppendRune.ev o _ (by omega) (by omega) (by omega) (by omega)) (ih _ _ ((hL.drop m).drop q) (by omega) (by rw [List.length_append];omega))
        ·rw [if_neg c4]
         have hl2:((decide (56320≤u) && decide (u < 57344)) != true)=true:=by
          by_cases c:56320≤u
          ·rw [decide_eq_false (show ¬ u < 57344 by omega),Bool.and_false];rfl
          ·rw [decide_eq_false c,Bool.false_and];rfl
         exact Ev.congr (fun k => if_pos hl2) (Ev.now _)
def DecV (L:List Int):ByteArray × Int:=decV (L.length + 1) L []
theorem text_Decode.ev (L:List Int) (hL:IsBytes L) (h:L.length≤140737488351232):Ev (fun k => text_Decode.f k L) (DecV L):=text_Decode.ev_l _ L [] hL (by omega) (by simp;omega)
theorem bytes_of_wf {l:List Int} (h:∀ x ∈ l,(Lit.int .u8 x).wf=true):IsBytes l:=by
 intro x hx
 have h1:=h x hx
 simp [Lit.wf,IntKind.min,IntKind.max,IntKind.bits,IntKind.signed] at h1
 omega
end Go.Proofs.YtglnhkgodgjepaaDoor.Px
namespace Go.Proofs.YtglnhkgodgjepaaDoor.Px
open Go.RowKit Go.Proofs.YtglnhkgodgjepaaDoorW.PrintWords Go.Proofs.YtglnhkgodgjepaaDoorW.PrintLast Go.Proofs.YtglnhkgodgjepaaDoorW.PrintMore
set_option linter.unusedVariables false
set_option linter.unusedSimpArgs false
theorem text_Encode.ev_one (b:List Int) (c:Int) (h0:0≤c) (h1:c≤1114111) (hb:b.length + 6 < 140737488355328):Ev (fun k => text_Encode.one k b c) (b++cuL c):=by
 unfold text_Encode.one text_split.f cuL
 by_cases hc:c < 65536
 ·refine Ev.congr (f:=fun k => text_unit.f k b c) (fun k => ?_) (by rw [if_pos hc];exact text_unit.ev b c h0 hc (by omega))
  simp only [if_pos hc,Option.bind_some,if_true]
 ·have e1:wrap32 (c - 65536)=c - 65536:=w32 (by omega) (by omega)
  have e2:bits .and .i32 (c - 65536) 1023=(c - 65536) % 1024:=bits_mask .i32 31 (by decide) wraps_i32 10 (by decide) _ (by omega) (by omega)
  have e3:wrap32 (55296 + (c - 65536) / 1024)=55296 + (c - 65536) / 1024:=w32 (by omega) (by omega)
  have e4:wrap32 (56320 + (c - 65536) % 1024)=56320 + (c - 65536) % 1024:=w32 (by omega) (by omega)
  have hl:=unitL_len (55296 + (c - 65536) / 1024)
  refine Ev.congr (f:=fun k => (text_unit.f k b (55296 + (c - 65536) / 1024)).bind fun b1 => text_unit.f k b1 (56320 + (c - 65536) % 1024)) (fun k => ?_) ?_
  ·simp only [if_neg hc,Option.bind_some,e1,e2,e3,e4]
   rw [if_neg (by omega)]
  rw [if_neg hc,← List.append_assoc]
  exact Ev.bind (text_unit.ev b _ (by omega) (by omega) (by omega)) (text_unit.ev _ _ (by omega) (by omega) (by rw [List.length_append];omega))
def encGo:Nat→List UInt8→List Int
 | 0,_ => []
 | f + 1,l => if l=[] then [] else cuL ((Lib.decodeL l).1:Int)++encGo f (l.drop (Lib.decodeL l).2)
def encL (l:List UInt8):List Int:=encGo l.length l
theorem encGo_fuel:∀ n m (l:List UInt8),l.length≤n→l.length≤m→encGo n l=encGo m l
 | 0,m,l,hn,_ => by
  have:l=[]:=List.length_eq_zero_iff.1 (by omega)
  subst this
  cases m <;> simp [encGo]
 | n + 1,0,l,_,hm => by
  have:l=[]:=List.length_eq_zero_iff.1 (by omega)
  subst this
  simp [encGo]
 | n + 1,m + 1,l,hn,hm => by
  unfold encGo
  by_cases hne:l=[]
  ·simp [hne]
  ·have hw:=Lib.decodeL_width l
   have hl:0 < l.length:=List.length_pos_iff.2 hne
   rw [if_neg hne,if_neg hne,encGo_fuel n m (l.drop (Lib.decodeL l).2) (by rw [List.length_drop];omega) (by rw [List.length_drop];omega)]
theorem encL_nil:encL []=[]:=rfl
theorem encL_step (l:List UInt8) (hne:l ≠ []):encL l=cuL ((Lib.decodeL l).1:Int)++encL (l.drop (Lib.decodeL l).2):=by
 have hl:0 < l.length:=List.length_pos_iff.2 hne
 have hw:=Lib.decodeL_width l
 obtain ⟨n,hn⟩:∃ n,l.length=n + 1:=⟨l.length - 1,by omega⟩
 unfold encL
 rw [hn]
 show (if l=[] then [] else _)=_
 rw [if_neg hne,encGo_fuel n (l.drop (Lib.decodeL l).2).length _ (by rw [List.length_drop];omega) (Nat.le_refl _)]
theorem text_Encode.ev_l (s:ByteArray) (hs:s.size≤1099511627776):∀ n p b,s.size - p≤n→b.length≤6 * p→Ev (fun k => text_Encode.l0 k s p b) (b++encL (s.data.toList.drop p),0)
 | 0,p,b,hn,hb => by
  refine Ev.step (f:=fun _ => some (b,0)) (fun k => ?_) ?_
  ·simp only [text_Encode.l0];rw [if_neg (by omega)]
  ·have:s.data.toList.drop p=[]:=List.drop_eq_nil_of_le (by rw [← Lib.size_eq];omega)
   rw [this,encL_nil,List.append_nil]
   exact Ev.now _
 | n + 1,p,b,hn,hb => by
  by_cases hp:p < s.size
  ·have hw:=text_Encode.width s p hp
   have hd:Lib.decodeL (s.data.toList.drop p)=Utf8.decode s p:=Lib.decodeL_drop s p
   have hr:=Lib.decodeL_rune (s.data.toList.drop p)
   have hne:s.data.toList.drop p ≠ []:=by
    intro e
    have:=congrArg List.length e
    rw [List.length_drop,← Lib.size_eq] at this
    simp at this
    omega
   rw [hd] at hr
   have h6:=cuL_len ((Utf8.decode s p).1:Int)
   have hwl:=decode_le s p
   refine Ev.step (f:=fun k => (text_Encode.one k b ((Utf8.decode s p).1:Int)).bind fun b1 => text_Encode.l0 k s (p + (Utf8.decode s p).2) b1) (fun k => ?_) ?_
   ·simp only [text_Encode.l0];rw [if_pos hp]
   ·rw [encL_step _ hne,hd,List.drop_drop,← List.append_assoc]
    exact Ev.bind (text_Encode.ev_one b _ (by omega) (by omega) (by omega)) (text_Encode.ev_l s hs n _ _ (by omega) (by rw [List.length_append];omega))
  ·refine Ev.step (f:=fun _ => some (b,0)) (fun k => ?_) ?_
   ·simp only [text_Encode.l0];rw [if_neg hp]
   ·have:s.data.toList.drop p=[]:=List.drop_eq_nil_of_le (by rw [← Lib.size_eq];omega)
    rw [this,encL_nil,List.append_nil]
    exact Ev.now _
def encV (s:ByteArray):List Int × Int:=if Lib.validD s.data.toList=true then (encL s.data.toList,0) else ([],20)
theorem text_Encode.ev (s:ByteArray) (hs:s.size≤1099511627776):Ev (fun k => text_Encode.f k s) (encV s):=by
 unfold text_Encode.f encV
 by_cases hv:Lib.validD s.data.toList=true
 ·refine Ev.congr (f:=fun k => text_Encode.l0 k s 0 []) (fun k => by rw [if_pos (by omega),if_pos hv]) ?_
  rw [if_pos hv]
  have:=text_Encode.ev_l s hs s.size 0 [] (by omega) (by simp)
  simpa using this
 ·refine Ev.congr (f:=fun k => some ([],20)) (fun k => by rw [if_pos (by omega),if_neg hv]) ?_
  rw [if_neg hv]
  exact Ev.now _
end Go.Proofs.YtglnhkgodgjepaaDoor.Px
namespace Go.Proofs.YtglnhkgodgjepaaDoor.Px
open Go.RowKit Go.Proofs.YtglnhkgodgjepaaDoorW.PrintWords Go.Proofs.YtglnhkgodgjepaaDoorW.PrintLast Go.Proofs.YtglnhkgodgjepaaDoorW.PrintMore
set_option linter.unusedVariables false
set_option linter.unusedSimpArgs false
abbrev B8 (x:Int):UInt8:=UInt8.ofNat x.toNat
theorem unit_of_takeV {L:List Int} (hL:IsBytes L) {v:Int} {m:Nat} (h:takeV L=some (v,m)):L=unitL v++L.drop m:=by
 have h0:=rd_byte hL 0
 have h1:=rd_byte hL 1
 have h2:=rd_byte hL 2
 have hl:1≤rd L 0→0 < L.length:=by
  intro hh
  cases L with
  | nil => simp [rd] at hh
  | cons a t => simp
 have key:L.take m=unitL v:=by
  unfold takeV V2 V3 at h
  unfold unitL
  split at h
  ·cases h
   rw [if_pos (by assumption),take1 L (hl (by omega))]
  ·split at h
   ·cases h
    rw [if_neg (by omega),if_pos (by omega),take2 L (by omega)]
    simp only [List.cons.injEq,and_true]
    omega
   ·split at h
    ·cases h
     rw [if_neg (by omega),if_neg (by omega),take3 L (by omega)]
     simp only [List.cons.injEq,and_true]
     omega
    ·cases h
 rw [← key,List.take_append_drop]
theorem utf8L_bytes (v:Int) (h0:0≤v) (h1:v≤1114111):IsBytes (utf8L v):=by
 intro x hx
 unfold utf8L at hx
 split at hx
 ·simp only [List.mem_singleton] at hx;omega
 ·split at hx
  ·simp only [List.mem_cons,List.not_mem_nil,or_false] at hx;omega
  ·split at hx <;> simp only [List.mem_cons,List.not_mem_nil,or_false] at hx <;> omega
theorem n8 (x:Int) (h0:0≤x) (h1:x < 256):((B8 x).toNat:Nat)=x.toNat:=by
 simp only [B8,UInt8.toNat_ofNat']
 rw [Nat.mod_eq_of_lt (by omega)]
theorem decodeL_utf8 (v:Int) (h0:0≤v) (h1:v≤1114111) (hs:v < 55296 ∨ 57344≤v) (R:List UInt8):Lib.decodeL ((utf8L v).map B8++R)=(v.toNat,(utf8L v).length):=by
 rw [Lib.decodeL_N]
 unfold utf8L
 by_cases c1:v < 128
 ·rw [if_pos c1]
  simp only [List.map_cons,List.map_nil,List.cons_append,List.nil_append,List.getD_cons_zero,List.length_cons,List.length_nil]
  unfold Lib.decodeN
  rw [n8 _ (by omega) (by omega),if_pos (by omega)]
 ·rw [if_neg c1]
  by_cases c2:v < 2048
  ·rw [if_pos c2]
   simp only [List.map_cons,List.map_nil,List.cons_append,List.nil_append,List.getD_cons_zero,List.getD_cons_succ,List.length_cons,List.length_nil]
   unfold Lib.decodeN
   rw [n8 _ (by omega) (by omega),n8 _ (by omega) (by omega),if_neg (by omega),if_pos (by omega),if_pos (by omega)]
   exact Prod.ext (show (192 + v / 64).toNat % 32 * 64 + (128 + v % 64).toNat % 64=v.toNat by omega) rfl
  ·rw [if_neg c2]
   by_cases c3:v < 65536
   ·rw [if_pos c3]
    simp only [List.map_cons,List.map_nil,List.cons_append,List.nil_append,List.getD_cons_zero,List.getD_cons_succ,List.length_cons,List.length_nil]
    unfold Lib.decodeN
    rw [n8 _ (by omega) (by omega),n8 _ (by omega) (by omega),n8 _ (by omega) (by omega),if_neg (by omega),if_neg (by omega),if_pos (by omega),if_pos (by omega)]
    exact Prod.ext (show (224 + v / 4096).toNat % 16 * 4096 + (128 + v / 64 % 64).toNat % 64 * 64 + (128 + v % 64).toNat % 64=v.toNat by omega) rfl
   ·rw [if_neg c3]
    simp only [List.map_cons,List.map_nil,List.cons_append,List.nil_append,List.getD_cons_zero,List.getD_cons_succ,List.length_cons,List.length_nil]
    unfold Lib.decodeN
    rw [n8 _ (by omega) (by omega),n8 _ (by omega) (by omega),n8 _ (by omega) (by omega),n8 _ (by omega) (by omega),if_neg (by omega),if_neg (by omega),if_neg (by omega),if_pos (by omega),if_pos (by omega)]
    exact Prod.ext (show (240 + v / 262144).toNat % 8 * 262144 + (128 + v / 4096 % 64).toNat % 64 * 4096 + (128 + v / 64 % 64).toNat % 64 * 64 + (128 + v % 64).toNat % 64=v.toNat by omega) rfl
theorem utf8L_pos (v:Int):0 < (utf8L v).length:=by unfold utf8L;split <;> (try split) <;> (try split) <;> simp
theorem step_utf8 (v:Int) (h0:0≤v) (h1:v≤1114111) (hs:v < 55296 ∨ 57344≤v) (R:List UInt8):Lib.validD ((utf8L v).map B8++R)=Lib.validD R∧encL ((utf8L v).map B8++R)=cuL v++encL R:=by
 have hd:=decodeL_utf8 v h0 h1 hs R
 have hne:(utf8L v).map B8++R ≠ []:=by
  intro e
  have e1:=congrArg List.length e
  have e2:=utf8L_pos v
  rw [List.length_append,List.length_map,List.length_nil] at e1
  omega
 have hlen:((utf8L v).map B8).length=(utf8L v).length:=List.length_map ..
 rw [Lib.validD_step _ hne,encL_step _ hne,hd]
 dsimp only
 have hdrop:((utf8L v).map B8++R).drop (utf8L v).length=R:=by rw [← hlen,List.drop_left]
 rw [hdrop]
 refine ⟨if_neg ?_,by rw [Int.toNat_of_nonneg h0]⟩
 rintro ⟨e1,e2⟩
 unfold utf8L at e2
 rw [if_neg (by omega),if_neg (by omega),if_pos (by omega)] at e2
 simp at e2
theorem enc_dec:∀ (n:Nat) (L o:List Int) (t:ByteArray),IsBytes L→decV n L o=(t,0)→∃ X:List Int,IsBytes X∧t=strOfNums (o++X)∧X.length≤L.length∧Lib.validD (X.map B8)=true∧encL (X.map B8)=L:=by
 intro n
 induction n with
 | zero => intro L o t hL h;simp [decV] at h
 | succ n ih =>
  intro L o t hL h
  simp only [decV] at h
  by_cases he:L=[]
  ·rw [if_pos he] at h
   subst he
   cases h
   exact ⟨[],fun x hx => by simp at hx,by rw [List.append_nil],Nat.le_refl _,rfl,rfl⟩
  rw [if_neg he] at h
  cases e:takeV L with
  | none => rw [e] at h;simp at h
  | some p =>
   obtain ⟨v,m⟩:=p
   rw [e] at h
   simp only at h
   obtain ⟨v0,v1,m1,m3,ml⟩:=takeV_ok hL e
   have hu:=unit_of_takeV hL e
   have hlen:=(takeV_len hL e)
   have hdl:(L.drop m).length=L.length - m:=List.length_drop
   by_cases c1:56320≤v∧v≤57343
   ·rw [if_pos c1] at h;simp at h
   rw [if_neg c1] at h
   by_cases c2:v < 55296 ∨ 56319 < v
   ·rw [if_pos c2] at h
    obtain ⟨X,hX,rfl,hXl,hXv,hXe⟩:=ih _ _ _ (hL.drop m) h
    obtain ⟨s1,s2⟩:=step_utf8 v v0 (by omega) (by omega) (X.map B8)
    refine ⟨utf8L v++X,fun x hx => ?_,by rw [List.append_assoc],by rw [List.length_append];omega,by rw [List.map_append,s1];exact hXv,?_⟩
    ·rcases List.mem_append.1 hx with hx|hx
     ·exact utf8L_bytes v v0 (by omega) x hx
     ·exact hX x hx
    ·rw [List.map_append,s2,hXe]
     unfold cuL
     rw [if_pos v1]
     exact hu.symm
   ·rw [if_neg c2] at h
    by_cases c3:L.drop m=[]
    ·rw [if_pos c3] at h;simp at h
    rw [if_neg c3] at h
    cases e2:takeV (L.drop m) with
    | none => rw [e2] at h;simp at h
    | some p2 =>
     obtain ⟨u,q⟩:=p2
     rw [e2] at h
     simp only at h
     obtain ⟨u0,u1,q1,q3,ql⟩:=takeV_ok (hL.drop m) e2
     have hu2:=unit_of_takeV (hL.drop m) e2
     have hlen2:=(takeV_len (hL.drop m) e2)
     have hdl2:((L.drop m).drop q).length=L.length - m - q:=by rw [List.length_drop,hdl]
     by_cases c4:56320≤u∧u≤57343
     ·rw [if_pos c4] at h
      obtain ⟨X,hX,rfl,hXl,hXv,hXe⟩:=ih _ _ _ ((hL.drop m).drop q) h
      have hc:65536≤pairN v u∧pairN v u≤1114111:=by unfold pairN;omega
      obtain ⟨s1,s2⟩:=step_utf8 (pairN v u) (by omega) (by omega) (by omega) (X.map B8)
      have h4:=utf8L_len (pairN v u)
      have m33:=hlen.2 (by omega)
      have q33:=hlen2.2 (by omega)
      refine ⟨utf8L (pairN v u)++X,fun x hx => ?_,by rw [List.append_assoc],by rw [List.length_append];omega,by rw [List.map_append,s1];exact hXv,?_⟩
      ·rcases List.mem_append.1 hx with hx|hx
       ·exact utf8L_bytes _ (by omega) (by omega) x hx
       ·exact hX x hx
      ·rw [List.map_append,s2,hXe]
       unfold cuL
       rw [if_neg (by omega),show 55296 + (pairN v u - 65536) / 1024=v by unfold pairN;omega,show 56320 + (pairN v u - 65536) % 1024=u by unfold pairN;omega,List.append_assoc,← hu2]
       exact hu.symm
     ·rw [if_neg c4] at h;simp at h
end Go.Proofs.YtglnhkgodgjepaaDoor.Px
namespace Go.Proofs.YtglnhkgodgjepaaDoor.Px
open Go.RowKit Go.Proofs.YtglnhkgodgjepaaDoorW.PrintWords Go.Proofs.YtglnhkgodgjepaaDoorW.PrintLast Go.Proofs.YtglnhkgodgjepaaDoorW.PrintMore
set_option linter.unusedVariables false
set_option linter.unusedSimpArgs false
def isV (l:List S33) (i tag:Int):Bool:=decide (0 < i∧i < (l.length:Int)∧(rd_T33 l i).f0=tag)
def noText:ByteArray:=⟨#[]⟩
def textV (l:List S33) (i:Int):ByteArray × Bool:=if isV l i 1=true then ((rd_T33 l i).f1,true) else (noText,false)
theorem isV_pos {l:List S33} {i tag:Int} (h:isV l i tag=true):0 < i∧i < (l.length:Int)∧(rd_T33 l i).f0=tag:=of_decide_eq_true h
theorem pool_is.eq (l:List S33) (i tag:Int):pool_is.f l i tag=some (isV l i tag):=by
 unfold pool_is.f isV
 by_cases h1:i > 0
 ·rw [if_pos h1]
  by_cases h2:i < (l.length:Int)
  ·rw [if_pos h2,if_pos (by omega)]
   congr 1
   rw [Bool.eq_iff_iff]
   simp only [beq_iff_eq,decide_eq_true_eq]
   exact ⟨fun h => ⟨h1,h2,h⟩,fun h => h.2.2⟩
  ·rw [if_neg h2,decide_eq_false (by omega)]
 ·rw [if_neg h1,decide_eq_false (by omega)]
theorem pool_Text.eq (l:List S33) (i:Int):pool_Text.f l i=some (textV l i):=by
 unfold pool_Text.f textV
 rw [pool_is.eq,Option.bind_some]
 by_cases h:isV l i 1=true
 ·have:=isV_pos h
  rw [if_pos h,if_pos h,if_pos (by omega),if_pos this.2.1]
 ·rw [if_neg h,if_neg h];rfl
end Go.Proofs.YtglnhkgodgjepaaDoor.Px
namespace Go.Proofs.YtglnhkgodgjepaaDoor.Px
open Go.RowKit Go.Proofs.YtglnhkgodgjepaaDoorW.PrintWords Go.Proofs.YtglnhkgodgjepaaDoorW.PrintLast Go.Proofs.YtglnhkgodgjepaaDoorW.PrintMore
set_option linter.unusedVariables false
set_option linter.unusedSimpArgs false
def fieldsV (c:Cst):Int × ByteArray × Int × Int × Int :=
 if c.f0=1 then (c.f0,c.f1,0,0,0) else if c.f0=3 ∨ c.f0=5 then (c.f0,⟨#[]⟩,c.f2,0,0) else if c.f0=9 ∨ c.f0=10 ∨ c.f0=12 then (c.f0,⟨#[]⟩,0,c.f3,c.f4) else if c.f0=7 then (c.f0,⟨#[]⟩,0,c.f3,0) else (c.f0,⟨#[]⟩,0,0,0)
def leadsV (p:List Cst) (c:Cst):Bool :=
 if c.f0=1 ∨ c.f0=5 then true else if c.f0=3 then decide (-2147483648≤c.f2∧c.f2≤2147483647) else if c.f0=7 then isV p c.f3 1 else if c.f0=12 then isV p c.f3 1 && isV p c.f4 1 else if c.f0=9 ∨ c.f0=10 then isV p c.f3 7 && isV p c.f4 12 else false
def bareV (c:Cst):Bool :=
 if c.f0=1 then decide (c.f2=0∧c.f3=0∧c.f4=0) else if c.f0=3 ∨ c.f0=5 then decide (c.f1.toList=[]∧c.f3=0∧c.f4=0) else if c.f0=7 then decide (c.f1.toList=[]∧c.f2=0∧c.f4=0) else decide (c.f1.toList=[]∧c.f2=0)
def oneV (p:List Cst) (c:Cst):Int :=
 if bareV c=true∧leadsV p c=true then (if c.f0=1∧¬ ((encV c.f1).2=0∧(encV c.f1).1.length≤256) then 20 else 0) else 40
def chkV:Nat→List Cst→Nat→Int
 | 0,_,_ => 0
 | n + 1,p,i => if i < p.length then (if oneV p (rd_T33 p (i:Int))=0 then chkV n p (i + 1) else oneV p (rd_T33 p (i:Int))) else 0
def zeroV (c:Cst):Bool:=decide (c.f0=0∧c.f1.toList=[]∧c.f2=0∧c.f3=0∧c.f4=0)
def checkV (p:List Cst):Int:=if p.length > 1024 then 2 else if p.length=0 then 40 else if zeroV (rd_T33 p 0)=true then chkV p.length p 1 else 40
theorem noBytes:(⟨#[]⟩:ByteArray).toList=[]:=by rw [Lib.toList_data]
theorem pool_fields.at2 (c:Cst):pool_fields.f 2 c.f0 c.f1 c.f2 c.f3 c.f4=some (fieldsV c):=by
 unfold fieldsV pool_fields.f
 simp only [pool_fields.j0,pool_fields.j1,beq_iff_eq]
 repeat' split
 all_goals first|rfl|(exfalso;omega)
theorem pool_fields.ev (c:Cst):Ev (fun k => pool_fields.f k c.f0 c.f1 c.f2 c.f3 c.f4) (fieldsV c):=Ev.of (fun k => pool_fields.mono _ _ _ _ _ k) (pool_fields.at2 c)
theorem wraps (x:Int) (h:(Lit.int .i64 x).wf=true):(wrap64 (wrap32 x)==x)=decide (-2147483648≤x∧x≤2147483647):=by
 simp [Lit.wf,IntKind.min,IntKind.max,IntKind.bits,IntKind.signed] at h
 rw [Bool.eq_iff_iff,beq_iff_eq,decide_eq_true_eq]
 unfold wrap64 wrap32
 omega
theorem pool_leads.at2 (p:List Cst) (c:Cst) (hw:(Lit.int .i64 c.f2).wf=true):pool_leads.f 2 p c.f0 c.f1 c.f2 c.f3 c.f4=some (leadsV p c):=by
 unfold leadsV pool_leads.f
 simp only [pool_leads.j0,pool_leads.j1,beq_iff_eq,pool_is.eq,Option.bind_some,wraps _ hw]
 by_cases h1:c.f0=1
 ·rw [if_pos h1,if_pos h1,if_pos (by omega)]
 rw [if_neg h1]
 by_cases h5:c.f0=5
 ·rw [if_pos h5,if_pos (by omega)]
 rw [if_neg h5,if_neg (show ¬ (c.f0=1 ∨ c.f0=5) by omega)]
 by_cases h3:c.f0=3
 ·rw [if_pos h3,if_pos h3]
 rw [if_neg h3,if_neg h3]
 by_cases h7:c.f0=7
 ·rw [if_pos h7,if_pos h7]
 rw [if_neg h7,if_neg h7]
 by_cases h12:c.f0=12
 ·rw [if_pos h12,if_pos h12]
  cases isV p c.f3 1 <;> simp
 rw [if_neg h12,if_neg h12]
 by_cases h9:c.f0=9
 ·rw [if_pos h9,if_pos h9,if_pos (show c.f0=9 ∨ c.f0=10 by omega)]
  cases isV p c.f3 7 <;> simp
 rw [if_neg h9]
 by_cases h10:c.f0=10
 ·rw [if_pos h10,if_pos (show c.f0=9 ∨ c.f0=10 by omega)]
  cases isV p c.f3 7 <;> simp
 rw [if_neg h10,if_neg (by omega)]
theorem pool_leads.ev (p:List Cst) (c:Cst) (hw:(Lit.int .i64 c.f2).wf=true):Ev (fun k => pool_leads.f k p c.f0 c.f1 c.f2 c.f3 c.f4) (leadsV p c):=Ev.of (fun k => pool_leads.mono _ _ _ _ _ _ k) (pool_leads.at2 p c hw)
theorem sameC_iff (c:Cst) (x:Int × ByteArray × Int × Int × Int):sameC c x=true ↔ c.f0=x.1∧c.f1.toList=x.2.1.toList∧c.f2=x.2.2.1∧c.f3=x.2.2.2.1∧c.f4=x.2.2.2.2:=by
 unfold sameC
 simp only [Bool.and_eq_true,beq_iff_eq]
theorem same_bare (p:List Cst) (c:Cst) (h:leadsV p c=true):sameC c (fieldsV c)=true ↔ bareV c=true:=by
 rw [sameC_iff]
 unfold fieldsV bareV
 unfold leadsV at h
 by_cases h1:c.f0=1
 ·simp [h1]
 ·by_cases h35:c.f0=3 ∨ c.f0=5
  ·rw [if_neg h1,if_neg h1,if_pos h35,if_pos h35]
   simp [noBytes]
  ·by_cases h9:c.f0=9 ∨ c.f0=10 ∨ c.f0=12
   ·rw [if_neg h1,if_neg h1,if_neg h35,if_neg h35,if_pos h9,if_neg (by omega)]
    simp [noBytes]
   ·by_cases h7:c.f0=7
    ·rw [if_neg h1,if_neg h1,if_neg h35,if_neg h35,if_neg h9,if_pos h7,if_pos h7]
     simp [noBytes]
    ·rw [if_neg (by omega),if_neg (by omega),if_neg (by omega),if_neg (by omega),if_neg (by omega)] at h
     cases h
theorem bare_text (c:Cst) (h:bareV c=true) (h1:c.f0 ≠ 1):encV c.f1=([],0):=by
 have ht:c.f1.toList=[]:=by
  unfold bareV at h
  rw [if_neg h1] at h
  split at h
  ·exact (of_decide_eq_true h).1
  ·split at h
   ·exact (of_decide_eq_true h).1
   ·exact (of_decide_eq_true h).1
 rw [Lib.toList_data] at ht
 unfold encV
 rw [ht]
 rfl
def codeOf (r:Option (Int × Int)):Int:=match r with|none => 0|some (_,y) => y
def FitC (c:Cst):Prop:=c.f1.size≤1099511627776∧(Lit.int .i64 c.f2).wf=true
theorem fit_zero:FitC z33:=⟨by decide,by decide⟩
theorem fit_rd {p:List Cst} (h:∀ c ∈ p,FitC c) (i:Int):FitC (rd_T33 p i):=by
 unfold rd_T33
 rw [List.getD_eq_getElem?_getD]
 cases e:p[i.toNat]? with
 | none => exact fit_zero
 | some x => exact h x (List.mem_of_getElem? e)
theorem pool_check.ev_l (p:List Cst) (hp:∀ c ∈ p,FitC c):∀ n i,p.length≤i + 1 + n→∃ r,Ev (fun k => pool_check.l0 k p i) r∧codeOf r=chkV n p (i + 1):=by
 have stop:∀ i,¬ i + 1 < p.length→Ev (fun k => pool_check.l0 k p i) none:=fun i hi => Ev.step (f:=fun _ => some none) (fun k => by simp only [pool_check.l0];rw [if_neg hi]) (Ev.now _)
 intro n
 induction n with
 | zero => intro i h;exact ⟨none,stop i (by omega),rfl⟩
 | succ n ih =>
  intro i h
  by_cases hi:i + 1 < p.length
  ·obtain ⟨c,hc⟩:∃ c,c=rd_T33 p ((i:Int) + 1):=⟨_,rfl⟩
   have hfit:FitC c:=hc ▸ fit_rd hp _
   have hV:chkV (n + 1) p (i + 1)=if oneV p c=0 then chkV n p (i + 2) else oneV p c:=by
    rw [hc]
    show (if i + 1 < p.length then _ else _)=_
    rw [if_pos hi]
    rfl
   rw [hV]
   have step:∀ r,Ev (fun k => (pool_fields.f k c.f0 c.f1 c.f2 c.f3 c.f4).bind fun x => if sameC c x=true then (pool_leads.f k p c.f0 c.f1 c.f2 c.f3 c.f4).bind fun t => if t=true then (text_Encode.f k c.f1).bind fun b => if b.2=0 then (if (b.1.length:Int) > 256 then some (some ((i:Int) + 1,20)) else pool_check.l0 k p (i + 1)) else some (some ((i:Int) + 1,20)) else some (some ((i:Int) + 1,40)) else some (some ((i:Int) + 1,40))) r→Ev (fun k => pool_check.l0 k p i) r:=fun r hr => Ev.step (fun k => by simp only [pool_check.l0];rw [if_pos hi,← hc]) hr
   by_cases hs:sameC c (fieldsV c)=true
   ·by_cases hl:leadsV p c=true
    ·have hb:=(same_bare p c hl).1 hs
     by_cases he:(encV c.f1).2=0∧(encV c.f1).1.length≤256
     ·obtain ⟨r,hr,hrc⟩:=ih (i + 1) (by omega)
      have h1:oneV p c=0:=by unfold oneV;rw [if_pos ⟨hb,hl⟩,if_neg (fun h => h.2 he)]
      rw [if_pos h1]
      refine ⟨r,step r (Ev.bind (pool_fields.ev c) (Ev.congr (fun k => if_pos hs) (Ev.bind (pool_leads.ev p c hfit.2) (Ev.congr (fun k => if_pos hl) (Ev.bind (text_Encode.ev c.f1 hfit.1) (Ev.congr (fun k => (if_pos he.1).trans (if_neg (by omega))) hr)))))),hrc⟩
     ·have hf1:c.f0=1:=by
       apply Classical.byContradiction
       intro h
       rw [bare_text c hb h] at he
       exact he ⟨rfl,by simp⟩
      have h1:oneV p c=20:=by unfold oneV;rw [if_pos ⟨hb,hl⟩,if_pos ⟨hf1,he⟩]
      rw [h1,if_neg (by decide)]
      refine ⟨some ((i:Int) + 1,20),step _ (Ev.bind (pool_fields.ev c) (Ev.congr (fun k => if_pos hs) (Ev.bind (pool_leads.ev p c hfit.2) (Ev.congr (fun k => if_pos hl) (Ev.bind (text_Encode.ev c.f1 hfit.1) ?_))))),rfl⟩
      by_cases h0:(encV c.f1).2=0
      ·exact Ev.congr (fun k => (if_pos h0).trans (if_pos (by omega))) (Ev.now _)
      ·exact Ev.congr (fun k => if_neg h0) (Ev.now _)
    ·have h1:oneV p c=40:=by unfold oneV;rw [if_neg (fun h => hl h.2)]
     rw [h1,if_neg (by decide)]
     exact ⟨some ((i:Int) + 1,40),step _ (Ev.bind (pool_fields.ev c) (Ev.congr (fun k => if_pos hs) (Ev.bind (pool_leads.ev p c hfit.2) (Ev.congr (fun k => if_neg hl) (Ev.now _))))),rfl⟩
   ·have h1:oneV p c=40:=by
     unfold oneV
     rw [if_neg (fun h => hs ((same_bare p c h.2).2 h.1))]
    rw [h1,if_neg (by decide)]
    exact ⟨some ((i:Int) + 1,40),step _ (Ev.bind (pool_fields.ev c) (Ev.congr (fun k => if_neg hs) (Ev.now _))),rfl⟩
  ·refine ⟨none,stop i hi,?_⟩
   show (0:Int)=if i + 1 < p.length then _ else 0
   rw [if_neg hi]
theorem zeroV_iff (c:Cst):sameC c (0,⟨#[]⟩,0,0,0)=zeroV c:=by
 rw [Bool.eq_iff_iff,sameC_iff]
 unfold zeroV
 rw [decide_eq_true_eq,noBytes]
theorem pool_Check.ev (p:List Cst) (hp:∀ c ∈ p,FitC c):Ev (fun k => pool_Check.f k p) (checkV p):=by
 have key:∀ r,Ev (fun k => pool_check.f k p) r→Ev (fun k => pool_Check.f k p) (codeOf r):=fun r hr => Ev.bind hr (Ev.now _)
 unfold checkV
 by_cases c1:p.length > 1024
 ·rw [if_pos c1]
  exact key (some (0,2)) (Ev.congr (f:=fun _ => some (some (0,2))) (fun k => by unfold pool_check.f;rw [if_pos c1]) (Ev.now _))
 rw [if_neg c1]
 by_cases c2:p.length=0
 ·rw [if_pos c2]
  exact key (some (0,40)) (Ev.congr (f:=fun _ => some (some (0,40))) (fun k => by unfold pool_check.f;rw [if_neg c1,if_pos c2]) (Ev.now _))
 rw [if_neg c2]
 by_cases c3:zeroV (rd_T33 p 0)=true
 ·rw [if_pos c3]
  obtain ⟨r,hr,hrc⟩:=pool_check.ev_l p hp p.length 0 (by omega)
  have:=key r (Ev.congr (f:=fun k => pool_check.l0 k p 0) (fun k => by unfold pool_check.f;rw [if_neg c1,if_neg c2,zeroV_iff,if_pos c3]) hr)
  rw [hrc] at this
  exact this
 ·rw [if_neg c3]
  exact key (some (0,40)) (Ev.congr (f:=fun _ => some (some (0,40))) (fun k => by unfold pool_check.f;rw [if_neg c1,if_neg c2,zeroV_iff,if_neg c3]) (Ev.now _))
end Go.Proofs.YtglnhkgodgjepaaDoor.Px
namespace Go.Proofs.YtglnhkgodgjepaaDoor.Px
open Go.RowKit Go.Proofs.YtglnhkgodgjepaaDoorW.PrintWords Go.Proofs.YtglnhkgodgjepaaDoorW.PrintLast Go.Proofs.YtglnhkgodgjepaaDoorW.PrintMore
set_option linter.unusedVariables false
set_option linter.unusedSimpArgs false
def uV (bs:List Int) (p n:Nat):Int × Int × Nat:=(beV (rdL bs p n),rdE bs p n,rdP bs p n)
def twoV (bs:List Int) (p:Nat) (e:Int):Int × Int × Nat:=if e=0 then uV bs p 2 else (0,e,p)
def bodyV (bs:List Int) (t:Int) (p:Nat):Cst × Int × Nat :=
 if t=1 then
  (if (uV bs p 2).2.1=0 then
   (if (uV bs p 2).1 > 256 then (⟨t,⟨#[]⟩,0,0,0⟩,20,(uV bs p 2).2.2)
    else if rdE bs (uV bs p 2).2.2 (uV bs p 2).1.toNat=0 then (⟨t,(DecV (rdL bs (uV bs p 2).2.2 (uV bs p 2).1.toNat)).1,0,0,0⟩,(DecV (rdL bs (uV bs p 2).2.2 (uV bs p 2).1.toNat)).2,rdP bs (uV bs p 2).2.2 (uV bs p 2).1.toNat)
      else (⟨t,⟨#[]⟩,0,0,0⟩,rdE bs (uV bs p 2).2.2 (uV bs p 2).1.toNat,rdP bs (uV bs p 2).2.2 (uV bs p 2).1.toNat))
   else (⟨t,⟨#[]⟩,0,0,0⟩,(uV bs p 2).2.1,(uV bs p 2).2.2))
 else if t=3 then (⟨t,⟨#[]⟩,(iV bs p 4).1,0,0⟩,(iV bs p 4).2.1,(iV bs p 4).2.2)
 else if t=5 then (⟨t,⟨#[]⟩,(iV bs p 8).1,0,0⟩,(iV bs p 8).2.1,(iV bs p 8).2.2)
 else if t=7 then (⟨t,⟨#[]⟩,0,(uV bs p 2).1,0⟩,(uV bs p 2).2.1,(uV bs p 2).2.2)
 else if t=9 ∨ t=10 ∨ t=12 then (⟨t,⟨#[]⟩,0,(uV bs p 2).1,(twoV bs (uV bs p 2).2.2 (uV bs p 2).2.1).1⟩,(twoV bs (uV bs p 2).2.2 (uV bs p 2).2.1).2.1,(twoV bs (uV bs p 2).2.2 (uV bs p 2).2.1).2.2)
 else (⟨t,⟨#[]⟩,0,0,0⟩,40,p)
def constV (bs:List Int) (p:Nat):Cst × Int × Nat :=
 if (uV bs p 1).2.1=0 then bodyV bs (uV bs p 1).1 (uV bs p 1).2.2 else (⟨(uV bs p 1).1,⟨#[]⟩,0,0,0⟩,(uV bs p 1).2.1,(uV bs p 1).2.2)
theorem pow256_mono {a b:Nat} (h:a≤b):(256:Int) ^ a≤256 ^ b:=by
 have h1:=Int.ofNat_le.2 (Nat.pow_le_pow_right (n:=256) (by decide) h)
 rw [Int.natCast_pow,Int.natCast_pow] at h1
 exact h1
theorem beV_lt {l:List Int} (h:IsBytes l) {n:Nat} (hl:l.length≤n):0≤beV l∧beV l < 256 ^ n:=by
 have h1:=beV_range l h
 have h2:(256:Int) ^ l.length≤256 ^ n:=pow256_mono hl
 omega
theorem u1_range {bs:List Int} (h:IsBytes bs) (p:Nat):0≤(uV bs p 1).1∧(uV bs p 1).1 < 256:=beV_lt (n:=1) (rdL_bytes h p 1) (rdL_le bs p 1)
theorem u2_range {bs:List Int} (h:IsBytes bs) (p:Nat):0≤(uV bs p 2).1∧(uV bs p 2).1 < 65536:=beV_lt (n:=2) (rdL_bytes h p 2) (rdL_le bs p 2)
theorem uV.ev {bs:List Int} (hb:IsBytes bs) (p n:Nat) (h8:n≤8):Ev (fun k => rd_Uint.f k bs p n) (uV bs p n):=uint.ev bs hb p n h8
theorem pool_two.ev {bs:List Int} (hb:IsBytes bs) (p:Nat) (e:Int):Ev (fun k => pool_two.f k bs p e) (twoV bs p e):=by
 unfold pool_two.f twoV
 by_cases he:e=0
 ·rw [if_pos he]
  refine Ev.congr (fun k => if_pos he) (Ev.bind (uV.ev hb p 2 (by decide)) ?_)
  exact Ev.congr (fun k => if_pos (u2_range hb p)) (Ev.now _)
 ·rw [if_neg he]
  exact Ev.congr (fun k => if_neg he) (Ev.now _)
theorem twoV_zero (bs:List Int) (p:Nat):twoV bs p 0=uV bs p 2:=if_pos rfl
theorem pool_constant.ev {bs:List Int} (hb:IsBytes bs) (hl:bs.length≤140737488351232) (p:Nat):Ev (fun k => pool_constant.f k bs p) (constV bs p):=by
 unfold pool_constant.f constV
 refine Ev.bind (uV.ev hb p 1 (by decide)) ?_
 refine Ev.congr (fun k => if_pos (u1_range hb p)) ?_
 by_cases he:(uV bs p 1).2.1=0
 ·refine Ev.congr (fun k => if_pos he) ?_
  rw [if_pos he]
  generalize (uV bs p 1).1=t
  generalize (uV bs p 1).2.2=q
  unfold bodyV
  have e2:=twoV_zero bs q ▸ pool_two.ev hb q 0
  have h2:=u2_range hb q
  by_cases h1:t=1
  ·rw [if_pos h1]
   refine Ev.congr (fun k => if_pos h1) (Ev.bind e2 ?_)
   by_cases h0:(uV bs q 2).2.1=0
   ·rw [if_pos h0]
    refine Ev.congr (fun k => if_pos h0) ?_
    by_cases h3:(uV bs q 2).1 > 256
    ·rw [if_pos h3]
     exact Ev.congr (fun k => if_pos h3) (Ev.now _)
    rw [if_neg h3]
    refine Ev.congr (fun k => if_neg h3) ?_
    by_cases h4:rdE bs (uV bs q 2).2.2 (uV bs q 2).1.toNat=0
    ·rw [if_pos h4]
     refine Ev.congr (fun k => if_pos h4) (Ev.bind (text_Decode.ev _ (rdL_bytes hb _ _) (by have:=rdL_le bs (uV bs q 2).2.2 (uV bs q 2).1.toNat;omega)) (Ev.now _))
    ·rw [if_neg h4]
     exact Ev.congr (fun k => if_neg h4) (Ev.now _)
   ·rw [if_neg h0]
    exact Ev.congr (fun k => if_neg h0) (Ev.now _)
  rw [if_neg h1]
  refine Ev.congr (fun k => if_neg h1) ?_
  by_cases h3:t=3
  ·rw [if_pos h3]
   exact Ev.congr (fun k => if_pos h3) (Ev.bind (int.ev bs hb q 4 (by decide) (by decide)) (Ev.now _))
  rw [if_neg h3]
  refine Ev.congr (fun k => if_neg h3) ?_
  by_cases h5:t=5
  ·rw [if_pos h5]
   exact Ev.congr (fun k => if_pos h5) (Ev.bind (int.ev bs hb q 8 (by decide) (by decide)) (Ev.now _))
  rw [if_neg h5]
  refine Ev.congr (fun k => if_neg h5) ?_
  by_cases h7:t=7
  ·rw [if_pos h7]
   exact Ev.congr (fun k => if_pos h7) (Ev.bind e2 (Ev.now _))
  rw [if_neg h7]
  refine Ev.congr (fun k => if_neg h7) ?_
  by_cases h9:t=9 ∨ t=10 ∨ t=12
  ·rw [if_pos h9]
   exact Ev.congr (fun k => if_pos h9) (Ev.bind e2 (Ev.bind (pool_two.ev hb _ _) (Ev.now _)))
  ·rw [if_neg h9]
   exact Ev.congr (fun k => if_neg h9) (Ev.now _)
 ·rw [if_neg he]
  exact Ev.congr (fun k => if_neg he) (Ev.now _)
theorem intV_range {l:List Int} (h:IsBytes l) (h1:1≤l.length) (h8:l.length≤8):-9223372036854775808≤intV l∧intV l < 9223372036854775808:=by
 cases l with
 | nil => simp at h1
 | cons b t =>
  have hc:=h b List.mem_cons_self
  have ht:IsBytes t:=fun x hx => h x (List.mem_cons_of_mem _ hx)
  have hl:t.length≤7:=by simp at h8;omega
  have hr:=beV_range t ht
  have hp:=pow256 hl
  have hp1:1≤(256:Int) ^ t.length:=by omega
  rw [← intV_cons]
  generalize beV t=y at hr
  generalize (256:Int) ^ t.length=q at hr hp hp1
  have hs:-128 * q≤(if b < 128 then b else b - 256) * q∧(if b < 128 then b else b - 256) * q≤127 * q :=
   ⟨Int.mul_le_mul_of_nonneg_right (by split <;> omega) (by omega),Int.mul_le_mul_of_nonneg_right (by split <;> omega) (by omega)⟩
  omega
theorem wf_i64 {x:Int} (h:-9223372036854775808≤x∧x < 9223372036854775808):(Lit.int .i64 x).wf=true:=by
 simp [Lit.wf,IntKind.min,IntKind.max,IntKind.bits,IntKind.signed]
 omega
theorem iV_wf {bs:List Int} (h:IsBytes bs) (p n:Nat) (h1:1≤n) (h8:n≤8):(Lit.int .i64 (iV bs p n).1).wf=true:=by
 unfold iV
 by_cases hs:p + n≤bs.length
 ·rw [if_pos hs]
  have hl:=rdL_len hs
  exact wf_i64 (intV_range (rdL_bytes h p n) (by omega) (by omega))
 ·rw [if_neg hs];show (Lit.int .i64 0).wf=true;decide
theorem strOfNums_len (l:List Int):(strOfNums l).size=l.length:=by
 unfold strOfNums
 simp [ByteArray.size]
theorem DecV_len {L:List Int} (h:IsBytes L) (h0:(DecV L).2=0):(DecV L).1.size≤L.length:=by
 have e:decV (L.length + 1) L []=((DecV L).1,0):=by rw [← h0];rfl
 obtain ⟨X,_,ht,hx,_⟩:=enc_dec _ L [] _ h e
 rw [ht,strOfNums_len,List.nil_append]
 exact hx
theorem bodyV_fit {bs:List Int} (h:IsBytes bs) (t:Int) (p:Nat) (h0:(bodyV bs t p).2.1=0):FitC (bodyV bs t p).1:=by
 have hz:∀ t x y,FitC ⟨t,⟨#[]⟩,0,x,y⟩:=fun t x y => ⟨by show (⟨#[]⟩:ByteArray).size≤_;decide,by show (Lit.int .i64 0).wf=true;decide⟩
 have h2:=u2_range h p
 unfold bodyV at h0 ⊢
 by_cases h1:t=1
 ·rw [if_pos h1] at h0 ⊢
  by_cases h3:(uV bs p 2).2.1=0
  ·rw [if_pos h3] at h0 ⊢
   by_cases h4:(uV bs p 2).1 > 256
   ·rw [if_pos h4] at h0 ⊢;exact hz _ _ _
   rw [if_neg h4] at h0 ⊢
   by_cases h5:rdE bs (uV bs p 2).2.2 (uV bs p 2).1.toNat=0
   ·rw [if_pos h5] at h0 ⊢
    have hd:=DecV_len (rdL_bytes h (uV bs p 2).2.2 (uV bs p 2).1.toNat) h0
    have:=rdL_le bs (uV bs p 2).2.2 (uV bs p 2).1.toNat
    exact ⟨by show (DecV _).1.size≤_;omega,by show (Lit.int .i64 0).wf=true;decide⟩
   ·rw [if_neg h5] at h0 ⊢;exact hz _ _ _
  ·rw [if_neg h3] at h0 ⊢;exact hz _ _ _
 rw [if_neg h1]
 by_cases h3:t=3
 ·rw [if_pos h3]
  exact ⟨by show (⟨#[]⟩:ByteArray).size≤_;decide,iV_wf h p 4 (by decide) (by decide)⟩
 rw [if_neg h3]
 by_cases h5:t=5
 ·rw [if_pos h5]
  exact ⟨by show (⟨#[]⟩:ByteArray).size≤_;decide,iV_wf h p 8 (by decide) (by decide)⟩
 rw [if_neg h5]
 repeat' split
 all_goals exact hz _ _ _
def decL:Nat→List Int→Int→List Cst→Nat→List Cst × Int × Int
 | 0,_,_,_,_ => ([],0,0)
 | f + 1,bs,n,ps,p =>
  if (ps.length:Int) < n then (if (constV bs p).2.1=0 then decL f bs n (ps++[(constV bs p).1]) (constV bs p).2.2 else ([],0,(constV bs p).2.1))
  else if checkV ps=0 then (ps,(p:Int),0) else ([],0,checkV ps)
def decPV (bs:List Int):List Cst × Int × Int :=
 if (uV bs 0 2).2.1=0 then (if (uV bs 0 2).1 > 1024 then ([],0,2) else if (uV bs 0 2).1=0 then ([],0,40) else decL ((uV bs 0 2).1.toNat + 1) bs (uV bs 0 2).1 [z33] (uV bs 0 2).2.2) else ([],0,(uV bs 0 2).2.1)
theorem constV_fit {bs:List Int} (h:IsBytes bs) (p:Nat) (h0:(constV bs p).2.1=0):FitC (constV bs p).1:=by
 unfold constV at h0 ⊢
 by_cases he:(uV bs p 1).2.1=0
 ·rw [if_pos he] at h0 ⊢
  exact bodyV_fit h _ _ h0
 ·rw [if_neg he] at h0
  exact absurd h0 he
theorem pool_Decode.ev_l {bs:List Int} (hb:IsBytes bs) (hl:bs.length≤140737488351232) (n:Int) (hn:n≤1024):∀ (f:Nat) (ps:List Cst) (p:Nat),n≤ps.length + f→ps.length≤1024→(∀ c ∈ ps,FitC c)→Ev (fun k => pool_Decode.l0 k bs n ps p) (decL (f + 1) bs n ps p):=by
 have last:∀ (f:Nat) (ps:List Cst) (p:Nat),¬ (ps.length:Int) < n→(∀ c ∈ ps,FitC c)→Ev (fun k => pool_Decode.l0 k bs n ps p) (decL (f + 1) bs n ps p):=by
  intro f ps p hs hf
  refine Ev.step (fun k => by simp only [pool_Decode.l0];rw [if_neg hs]) ?_
  unfold decL
  rw [if_neg hs]
  refine Ev.bind (pool_Check.ev ps hf) ?_
  by_cases h0:checkV ps=0
  ·simp only [if_pos h0]
   exact Ev.now _
  ·simp only [if_neg h0]
   exact Ev.now _
 intro f
 induction f with
 | zero => intro ps p h hp hf;exact last 0 ps p (by omega) hf
 | succ f ih =>
  intro ps p h hp hf
  by_cases hs:(ps.length:Int) < n
  ·refine Ev.step (fun k => by simp only [pool_Decode.l0];rw [if_pos hs]) ?_
   rw [decL,if_pos hs]
   refine Ev.bind (pool_constant.ev hb hl p) ?_
   by_cases h0:(constV bs p).2.1=0
   ·rw [if_pos h0]
    refine Ev.congr (fun k => (if_pos h0).trans (if_pos (by omega))) ?_
    refine ih (ps++[(constV bs p).1]) (constV bs p).2.2 (by rw [List.length_append,List.length_singleton];omega) (by rw [List.length_append,List.length_singleton];omega) ?_
    intro c hc
    rcases List.mem_append.1 hc with hc|hc
    ·exact hf c hc
    ·rw [List.mem_singleton.1 hc]
     exact constV_fit hb p h0
   ·rw [if_neg h0]
    exact Ev.congr (fun k => if_neg h0) (Ev.now _)
  ·exact last (f + 1) ps p hs hf
theorem one_fit:∀ c ∈ [z33],FitC c:=fun c hc => by rw [List.mem_singleton.1 hc];exact fit_zero
theorem pool_Decode.ev {bs:List Int} (hb:IsBytes bs) (hl:bs.length≤140737488351232):Ev (fun k => pool_Decode.f k bs) (decPV bs):=by
 unfold pool_Decode.f decPV
 refine Ev.congr (fun k => if_pos (by omega)) ?_
 refine Ev.bind (uV.ev hb 0 2 (by decide)) ?_
 have h2:=u2_range hb 0
 refine Ev.congr (fun k => if_pos h2) ?_
 by_cases h0:(uV bs 0 2).2.1=0
 ·rw [if_pos h0]
  refine Ev.congr (fun k => if_pos h0) ?_
  by_cases h3:(uV bs 0 2).1 > 1024
  ·rw [if_pos h3]
   exact Ev.congr (fun k => if_pos h3) (Ev.now _)
  rw [if_neg h3]
  refine Ev.congr (fun k => if_neg h3) ?_
  by_cases h4:(uV bs 0 2).1=0
  ·rw [if_pos h4]
   exact Ev.congr (fun k => if_pos h4) (Ev.now _)
  rw [if_neg h4]
  refine Ev.congr (fun k => if_neg h4) ?_
  exact pool_Decode.ev_l hb hl _ (by omega) (uV bs 0 2).1.toNat [z33] (uV bs 0 2).2.2 (by simp;omega) (by simp) one_fit
 ·rw [if_neg h0]
  exact Ev.congr (fun k => if_neg h0) (Ev.now _)
end Go.Proofs.YtglnhkgodgjepaaDoor.Px
namespace Go.Proofs.YtglnhkgodgjepaaDoor.Px
open Go.RowKit Go.Proofs.YtglnhkgodgjepaaDoorW.PrintWords Go.Proofs.YtglnhkgodgjepaaDoorW.PrintLast Go.Proofs.YtglnhkgodgjepaaDoorW.PrintMore
set_option linter.unusedVariables false
set_option linter.unusedSimpArgs false
theorem ref_unit.ev (u:Int) (h0:0≤u) (h1:u < 65536):Ev (fun k => understudyref02_unit.f k u) (unitL u):=by
 refine ⟨1,fun k hk => ?_⟩
 obtain ⟨k,rfl⟩:∃ m,k=m + 1:=⟨k - 1,by omega⟩
 have d64:Int.tdiv u 64=u / 64:=Int.tdiv_eq_ediv_of_nonneg h0
 have d4096:Int.tdiv u 4096=u / 4096:=Int.tdiv_eq_ediv_of_nonneg h0
 have m64:Int.tmod u 64=u % 64:=Int.tmod_eq_emod_of_nonneg h0
 have m64':Int.tmod (u / 64) 64=u / 64 % 64:=Int.tmod_eq_emod_of_nonneg (by omega)
 show understudyref02_unit.f (k + 1) u=_
 unfold understudyref02_unit.f unitL
 by_cases c1:1≤u∧u≤127
 ·rw [if_pos c1,if_pos (by omega),decide_eq_true (by omega)]
  simp only [understudyref02_unit.j0]
  rw [if_pos trivial,show u % 256=u from by omega]
 ·rw [if_neg c1]
  have key:understudyref02_unit.j0 (k + 1) u false=some (if u≤2047 then [192 + u / 64,128 + u % 64] else [224 + u / 4096,128 + u / 64 % 64,128 + u % 64]):=by
   simp only [understudyref02_unit.j0]
   rw [if_neg (by simp),d64,d4096,m64,w64 (x:=u / 64) (by omega) (by omega),w64 (x:=u / 4096) (by omega) (by omega),m64',w64 (x:=192 + u / 64) (by omega) (by omega),w64 (x:=128 + u % 64) (by omega) (by omega),w64 (x:=224 + u / 4096) (by omega) (by omega),w64 (x:=128 + u / 64 % 64) (by omega) (by omega)]
   by_cases c2:u≤2047
   ·rw [if_pos c2,if_pos c2,show (192 + u / 64) % 256=192 + u / 64 from by omega,show (128 + u % 64) % 256=128 + u % 64 from by omega]
   ·rw [if_neg c2,if_neg c2,show (224 + u / 4096) % 256=224 + u / 4096 from by omega,show (128 + u % 64) % 256=128 + u % 64 from by omega,show (128 + u / 64 % 64) % 256=128 + u / 64 % 64 from by omega]
  by_cases c3:u ≥ 1
  ·rw [if_pos c3,decide_eq_false (by omega),key]
  ·rw [if_neg c3,key]
theorem bt_nat (s:ByteArray) (i:Nat) (h:i < s.size):bt s (i:Int)=((s.get! i).toNat:Int):=by
 have h':((i:Int)).toNat < s.size:=by omega
 have e:=Utf8W.get!_of_lt s i h
 unfold bt
 rw [dif_pos h',e]
 rfl
theorem point_step (k:Nat) (s:ByteArray) (c n least:Int) (i b:Nat) (hi:(i:Int) < n) (hs:i < s.size) (hb:(s.get! i).toNat=b) (hn:n≤4) (h1:128≤b) (h2:b≤191) (hc0:0≤c) (hc1:c < 65536) :
  understudyref02_point.l0 (k + 1) s c n least (i:Int)=understudyref02_point.l0 k s (c * 64 + (b:Int) % 64) n least ((i:Int) + 1):=by
 have e:=bt_nat s i hs
 rw [hb] at e
 have e1:bits .and .u8 (b:Int) 63=(b:Int) % 64:=u8_and63 _ (by omega) (by omega)
 have e2:bits .or .i64 (c * 64) ((b:Int) % 64)=c * 64 + (b:Int) % 64:=bits_join .i64 63 (by decide) wraps_i64' 6 (c * 64) ((b:Int) % 64) (by omega) (by omega) (by omega) (by omega) (by omega) (by omega)
 simp only [understudyref02_point.l0]
 rw [if_pos hi,if_pos (by omega),if_pos (by omega),e,if_neg (by omega),if_neg (by omega),e1,w64 (x:=c * 64) (by omega) (by omega),w64 (x:=(b:Int) % 64) (by omega) (by omega),e2,w64 (by omega) (by omega)]
theorem point_bad (k:Nat) (s:ByteArray) (c n least:Int) (i b:Nat) (hi:(i:Int) < n) (hs:i < s.size) (hb:(s.get! i).toNat=b) (h:b < 128 ∨ 191 < b) :
  understudyref02_point.l0 (k + 1) s c n least (i:Int)=some (0,0):=by
 have e:=bt_nat s i hs
 rw [hb] at e
 simp only [understudyref02_point.l0]
 rw [if_pos hi,if_pos (by omega),if_pos (by omega),e]
 rcases h with h|h
 ·rw [if_pos (by omega)]
 ·rw [if_neg (by omega),if_pos (by omega)]
theorem point_end (k:Nat) (s:ByteArray) (c n least i:Int) (hi:¬ i < n) :
  understudyref02_point.l0 (k + 1) s c n least i=some (if c < least ∨ c > 1114111 ∨ (55296≤c∧c≤57343) then (0,0) else (c,n)):=by
 simp only [understudyref02_point.l0]
 rw [if_neg hi]
 by_cases h1:c < least
 ·rw [if_pos h1,if_pos (.inl h1)]
 ·rw [if_neg h1]
  by_cases h2:c > 1114111
  ·rw [if_pos h2,if_pos (.inr (.inl h2))]
  ·rw [if_neg h2]
   by_cases h3:c ≥ 55296
   ·rw [if_pos h3]
    by_cases h4:c≤57343
    ·rw [if_pos h4,if_pos (.inr (.inr ⟨h3,h4⟩))]
    ·rw [if_neg h4,if_neg (by omega)]
   ·rw [if_neg h3,if_neg (by omega)]
def pointV (s:ByteArray):Int × Int:=if (Utf8.decode s 0).1=65533∧(Utf8.decode s 0).2=1 then (0,0) else (((Utf8.decode s 0).1:Int),((Utf8.decode s 0).2:Int))
def pointN (d:Nat × Nat):Int × Int:=if d.1=65533∧d.2=1 then (0,0) else ((d.1:Int),(d.2:Int))
theorem pointV_eq (s:ByteArray):pointV s=pointN (Lib.decodeN s.size (s.get! 0).toNat (s.get! 1).toNat (s.get! 2).toNat (s.get! 3).toNat):=by
 unfold pointV pointN
 rw [Lib.decode_at,Nat.sub_zero]
theorem pointN_bad {d:Nat × Nat} (h:d=(65533,1)):pointN d=(0,0):=by rw [h];rfl
theorem pointN_good {d:Nat × Nat} {c n:Nat} (h:d=(c,n)) (hn:¬ (c=65533∧n=1)):pointN d=((c:Int),(n:Int)):=by rw [h];unfold pointN;rw [if_neg hn]
theorem point2 (k:Nat) (s:ByteArray) (b0:Nat) (h0:194≤b0) (h1:b0≤223) :
  understudyref02_point.j2 (k + 4) s ((b0:Int) % 32) 2 128=some (pointN (Lib.decodeN s.size b0 (s.get! 1).toNat (s.get! 2).toNat (s.get! 3).toNat)):=by
 generalize e1:(s.get! 1).toNat=b1
 simp only [understudyref02_point.j2]
 by_cases hs:(s.size:Int) < 2
 ·rw [if_pos hs]
  rw [pointN_bad (by unfold Lib.decodeN;rw [if_neg (by omega),if_neg (by omega),if_neg (by omega),if_neg (by omega)])]
 ·rw [if_neg hs]
  by_cases hb:b1 < 128 ∨ 191 < b1
  ·rw [show (1:Int)=((1:Nat):Int) from rfl,point_bad (k + 2) s _ 2 128 1 b1 (by omega) (by omega) e1 hb]
   rw [pointN_bad (by unfold Lib.decodeN;rw [if_neg (by omega),if_neg (by omega),if_neg (by omega),if_neg (by omega)])]
  ·rw [show (1:Int)=((1:Nat):Int) from rfl,point_step (k + 2) s _ 2 128 1 b1 (by omega) (by omega) e1 (by omega) (by omega) (by omega) (by omega) (by omega),point_end _ _ _ _ _ _ (by omega),if_neg (by omega)]
   rw [pointN_good (c:=b0 % 32 * 64 + b1 % 64) (n:=2) (by unfold Lib.decodeN;rw [if_neg (by omega),if_pos (by omega),if_pos (by omega)]) (by omega)]
   have:((b0 % 32 * 64 + b1 % 64:Nat):Int)=(b0:Int) % 32 * 64 + (b1:Int) % 64:=by omega
   rw [this]
   rfl
theorem point3 (k:Nat) (s:ByteArray) (b0:Nat) (h0:224≤b0) (h1:b0≤239) :
  understudyref02_point.j2 (k + 5) s ((b0:Int) % 16) 3 2048=some (pointN (Lib.decodeN s.size b0 (s.get! 1).toNat (s.get! 2).toNat (s.get! 3).toNat)):=by
 generalize e1:(s.get! 1).toNat=b1
 generalize e2:(s.get! 2).toNat=b2
 simp only [understudyref02_point.j2]
 have fin:∀ b3:Nat,¬ ((1 < s.size∧b1 / 64=2)∧(2 < s.size∧b2 / 64=2))→pointN (Lib.decodeN s.size b0 b1 b2 b3)=(0,0):=by
  intro b3 hh
  exact pointN_bad (by unfold Lib.decodeN;rw [if_neg (by omega),if_neg (by omega),if_neg (by omega),if_neg (by omega)])
 by_cases hs:(s.size:Int) < 3
 ·rw [if_pos hs,fin _ (by omega)]
 ·rw [if_neg hs]
  by_cases hb:b1 < 128 ∨ 191 < b1
  ·rw [show (1:Int)=((1:Nat):Int) from rfl,point_bad (k + 3) s _ 3 2048 1 b1 (by omega) (by omega) e1 hb,fin _ (by omega)]
  ·rw [show (1:Int)=((1:Nat):Int) from rfl,point_step (k + 3) s _ 3 2048 1 b1 (by omega) (by omega) e1 (by omega) (by omega) (by omega) (by omega) (by omega)]
   by_cases hb2:b2 < 128 ∨ 191 < b2
   ·rw [show ((1:Nat):Int) + 1=((2:Nat):Int) from rfl,point_bad (k + 2) s _ 3 2048 2 b2 (by omega) (by omega) e2 hb2,fin _ (by omega)]
   ·rw [show ((1:Nat):Int) + 1=((2:Nat):Int) from rfl,point_step (k + 2) s _ 3 2048 2 b2 (by omega) (by omega) e2 (by omega) (by omega) (by omega) (by omega) (by omega),point_end _ _ _ _ _ _ (by omega)]
    generalize (s.get! 3).toNat=b3
    have hd:Lib.decodeN s.size b0 b1 b2 b3=if b0 % 16 * 4096 + b1 % 64 * 64 + b2 % 64 ≥ 2048∧(b0 % 16 * 4096 + b1 % 64 * 64 + b2 % 64 < 55296 ∨ (57344≤b0 % 16 * 4096 + b1 % 64 * 64 + b2 % 64∧b0 % 16 * 4096 + b1 % 64 * 64 + b2 % 64≤1114111)) then (b0 % 16 * 4096 + b1 % 64 * 64 + b2 % 64,3) else (65533,1):=by unfold Lib.decodeN;rw [if_neg (by omega),if_neg (by omega),if_pos (by omega)]
    rw [hd]
    clear hd
    have hv:((b0 % 16 * 4096 + b1 % 64 * 64 + b2 % 64:Nat):Int)=((b0:Int) % 16 * 64 + (b1:Int) % 64) * 64 + (b2:Int) % 64:=by omega
    generalize b0 % 16 * 4096 + b1 % 64 * 64 + b2 % 64=c at hv ⊢
    rw [← hv]
    by_cases hc:c ≥ 2048∧(c < 55296 ∨ (57344≤c∧c≤1114111))
    ·rw [if_neg (by omega),if_pos hc,pointN_good rfl (by omega)];rfl
    ·rw [if_pos (by omega),if_neg hc,pointN_bad rfl]
theorem point4 (k:Nat) (s:ByteArray) (b0:Nat) (h0:240≤b0) (h1:b0≤244) :
  understudyref02_point.j2 (k + 6) s ((b0:Int) % 8) 4 65536=some (pointN (Lib.decodeN s.size b0 (s.get! 1).toNat (s.get! 2).toNat (s.get! 3).toNat)):=by
 generalize e1:(s.get! 1).toNat=b1
 generalize e2:(s.get! 2).toNat=b2
 generalize e3:(s.get! 3).toNat=b3
 simp only [understudyref02_point.j2]
 have fin:¬ ((1 < s.size∧b1 / 64=2)∧(2 < s.size∧b2 / 64=2)∧(3 < s.size∧b3 / 64=2))→pointN (Lib.decodeN s.size b0 b1 b2 b3)=(0,0):=by
  intro hh
  exact pointN_bad (by unfold Lib.decodeN;rw [if_neg (by omega),if_neg (by omega),if_neg (by omega),if_neg (by omega)])
 by_cases hs:(s.size:Int) < 4
 ·rw [if_pos hs,fin (by omega)]
 ·rw [if_neg hs]
  by_cases hb:b1 < 128 ∨ 191 < b1
  ·rw [show (1:Int)=((1:Nat):Int) from rfl,point_bad (k + 4) s _ 4 65536 1 b1 (by omega) (by omega) e1 hb,fin (by omega)]
  ·rw [show (1:Int)=((1:Nat):Int) from rfl,point_step (k + 4) s _ 4 65536 1 b1 (by omega) (by omega) e1 (by omega) (by omega) (by omega) (by omega) (by omega)]
   by_cases hb2:b2 < 128 ∨ 191 < b2
   ·rw [show ((1:Nat):Int) + 1=((2:Nat):Int) from rfl,point_bad (k + 3) s _ 4 65536 2 b2 (by omega) (by omega) e2 hb2,fin (by omega)]
   ·rw [show ((1:Nat):Int) + 1=((2:Nat):Int) from rfl,point_step (k + 3) s _ 4 65536 2 b2 (by omega) (by omega) e2 (by omega) (by omega) (by omega) (by omega) (by omega)]
    by_cases hb3:b3 < 128 ∨ 191 < b3
    ·rw [show ((2:Nat):Int) + 1=((3:Nat):Int) from rfl,point_bad (k + 2) s _ 4 65536 3 b3 (by omega) (by omega) e3 hb3,fin (by omega)]
    ·rw [show ((2:Nat):Int) + 1=((3:Nat):Int) from rfl,point_step (k + 2) s _ 4 65536 3 b3 (by omega) (by omega) e3 (by omega) (by omega) (by omega) (by omega) (by omega),point_end _ _ _ _ _ _ (by omega)]
     have hd:Lib.decodeN s.size b0 b1 b2 b3=if b0 % 8 * 262144 + b1 % 64 * 4096 + b2 % 64 * 64 + b3 % 64 ≥ 65536∧(b0 % 8 * 262144 + b1 % 64 * 4096 + b2 % 64 * 64 + b3 % 64 < 55296 ∨ (57344≤b0 % 8 * 262144 + b1 % 64 * 4096 + b2 % 64 * 64 + b3 % 64∧b0 % 8 * 262144 + b1 % 64 * 4096 + b2 % 64 * 64 + b3 % 64≤1114111)) then (b0 % 8 * 262144 + b1 % 64 * 4096 + b2 % 64 * 64 + b3 % 64,4) else (65533,1):=by unfold Lib.decodeN;rw [if_neg (by omega),if_neg (by omega),if_neg (by omega),if_pos (by omega)]
     rw [hd]
     clear hd
     have hv:((b0 % 8 * 262144 + b1 % 64 * 4096 + b2 % 64 * 64 + b3 % 64:Nat):Int)=(((b0:Int) % 8 * 64 + (b1:Int) % 64) * 64 + (b2:Int) % 64) * 64 + (b3:Int) % 64:=by omega
     generalize b0 % 8 * 262144 + b1 % 64 * 4096 + b2 % 64 * 64 + b3 % 64=c at hv ⊢
     rw [← hv]
     by_cases hc:c ≥ 65536∧(c < 55296 ∨ (57344≤c∧c≤1114111))
     ·rw [if_neg (by omega),if_pos hc,pointN_good rfl (by omega)];rfl
     ·rw [if_pos (by omega),if_neg hc,pointN_bad rfl]
theorem point.ev (s:ByteArray) (hs:0 < s.size):Ev (fun k => understudyref02_point.f k s) (pointV s):=by
 refine ⟨9,fun k hk => ?_⟩
 obtain ⟨k,rfl⟩:∃ m,k=m + 9:=⟨k - 9,by omega⟩
 show understudyref02_point.f (k + 9) s=_
 rw [pointV_eq]
 have e:=bt_nat s 0 hs
 generalize e0:(s.get! 0).toNat=b0 at e ⊢
 have hb0:b0 < 256:=by rw [← e0];exact (s.get! 0).toNat_lt
 have a31:bits .and .i64 (b0:Int) 31=(b0:Int) % 32:=and64 5 (by omega) _ (by omega) (by omega)
 have a15:bits .and .i64 (b0:Int) 15=(b0:Int) % 16:=and64 4 (by omega) _ (by omega) (by omega)
 have a7:bits .and .i64 (b0:Int) 7=(b0:Int) % 8:=and64 3 (by omega) _ (by omega) (by omega)
 unfold understudyref02_point.f
 rw [if_pos (by omega),show (0:Int)=((0:Nat):Int) from rfl,e,w64 (by omega) (by omega)]
 have none_:¬ (194≤b0∧b0≤244)→128≤b0→∀ b1 b2 b3,b1 < 256→b2 < 256→b3 < 256→pointN (Lib.decodeN s.size b0 b1 b2 b3)=(0,0):=by
  intro h1 h2 b1 b2 b3 l1 l2 l3
  apply pointN_bad
  unfold Lib.decodeN
  rw [if_neg (by omega)]
  by_cases c1:b0 / 32=6∧(1 < s.size∧b1 / 64=2)
  ·rw [if_pos c1,if_neg (by omega)]
  ·rw [if_neg c1,if_neg (by omega)]
   by_cases c2:b0 / 8=30∧(1 < s.size∧b1 / 64=2)∧(2 < s.size∧b2 / 64=2)∧(3 < s.size∧b3 / 64=2)
   ·rw [if_pos c2,if_neg (by omega)]
   ·rw [if_neg c2]
 have lt (i:Nat):(s.get! i).toNat < 256:=(s.get! i).toNat_lt
 by_cases c1:b0 < 128
 ·rw [if_pos (by omega)]
  rw [pointN_good (c:=b0) (n:=1) (by unfold Lib.decodeN;rw [if_pos c1]) (by omega)]
  rfl
 ·rw [if_neg (by omega)]
  by_cases c2:194≤b0∧b0≤223
  ·rw [if_pos (by omega),decide_eq_true (by omega)]
   simp only [understudyref02_point.j0]
   rw [if_pos trivial,a31]
   exact point2 (k + 4) s b0 c2.1 c2.2
  ·have key:understudyref02_point.j0 (k + 9) s (b0:Int) false=some (pointN (Lib.decodeN s.size b0 (s.get! 1).toNat (s.get! 2).toNat (s.get! 3).toNat)):=by
    simp only [understudyref02_point.j0]
    rw [if_neg (by simp)]
    by_cases c3:224≤b0∧b0≤239
    ·rw [if_pos (by omega),decide_eq_true (by omega)]
     simp only [understudyref02_point.j1]
     rw [if_pos trivial,a15]
     exact point3 (k + 2) s b0 c3.1 c3.2
    ·have key2:understudyref02_point.j1 (k + 8) s (b0:Int) false=some (pointN (Lib.decodeN s.size b0 (s.get! 1).toNat (s.get! 2).toNat (s.get! 3).toNat)):=by
      simp only [understudyref02_point.j1]
      rw [if_neg (by simp)]
      by_cases c4:240≤b0
      ·rw [if_pos (by omega)]
       by_cases c5:b0≤244
       ·rw [if_pos (by omega),a7]
        exact point4 (k + 1) s b0 c4 c5
       ·rw [if_neg (by omega),none_ (by omega) (by omega) _ _ _ (lt _) (lt _) (lt _)]
      ·rw [if_neg (by omega),none_ (by omega) (by omega) _ _ _ (lt _) (lt _) (lt _)]
     by_cases c6:(b0:Int) ≥ 224
     ·rw [if_pos c6,decide_eq_false (by omega)];exact key2
     ·rw [if_neg c6];exact key2
   by_cases c6:(b0:Int) ≥ 194
   ·rw [if_pos c6,decide_eq_false (by omega)];exact key
   ·rw [if_neg c6];exact key
theorem ne_of_size (s:ByteArray) (hs:0 < s.size):s.data.toList ≠ []:=by
 intro e
 have:=congrArg List.length e
 rw [← Lib.size_eq] at this
 simp only [List.length_nil] at this
 omega
theorem ref_Encode.ev_l:∀ n (s:ByteArray) (b:List Int),s.size≤n→b.length + 6 * s.size < 140737488355328→Ev (fun k => understudyref02_Encode.l0 k s b) (if Lib.validD s.data.toList=true then (b++encL s.data.toList,0) else ([],20)):=by
 intro n
 induction n with
 | zero =>
  intro s b hn hb
  have e:s.data.toList=[]:=List.length_eq_zero_iff.1 (by rw [← Lib.size_eq];omega)
  refine ⟨1,fun k hk => ?_⟩
  obtain ⟨k,rfl⟩:∃ m,k=m + 1:=⟨k - 1,by omega⟩
  simp only [understudyref02_Encode.l0]
  rw [if_neg (by omega),e,Lib.validD_nil,if_pos rfl,encL_nil,List.append_nil]
 | succ n ih =>
  intro s b hn hb
  by_cases hs:0 < s.size
  ·have hne:=ne_of_size s hs
   have hd:Lib.decodeL s.data.toList=Utf8.decode s 0:=by
    have:=Lib.decodeL_drop s 0
    simpa using this
   have hw:=text_Encode.width s 0 hs
   have hr:=Lib.decodeL_rune s.data.toList
   rw [hd] at hr
   have hwl:=Lib.decodeL_le s.data.toList hne
   rw [hd,← Lib.size_eq] at hwl
   have h6:=cuL_len ((Utf8.decode s 0).1:Int)
   obtain ⟨K1,hP⟩:=point.ev s hs
   have hstep:=Lib.validD_step s.data.toList hne
   have hex:(s.extract (Utf8.decode s 0).2 s.size).data.toList=s.data.toList.drop (Utf8.decode s 0).2:=Lib.extract_to_end s _
   rw [hd] at hstep
   unfold pointV at hP
   by_cases hbad:(Utf8.decode s 0).1=65533∧(Utf8.decode s 0).2=1
   ·rw [if_pos hbad] at hstep
    rw [if_pos hbad] at hP
    rw [if_neg (by rw [hstep];simp)]
    refine ⟨K1 + 1,fun k hk => ?_⟩
    obtain ⟨k,rfl⟩:∃ m,k=m + 1:=⟨k - 1,by omega⟩
    have hp:=hP k (by omega)
    simp only at hp
    simp only [understudyref02_Encode.l0]
    rw [if_pos (by omega),hp,Option.bind_some,if_pos rfl]
   ·rw [if_neg hbad] at hstep
    rw [if_neg hbad] at hP
    rw [hstep,encL_step _ hne,hd]
    have hsz:(s.extract (Utf8.decode s 0).2 s.size).size=s.size - (Utf8.decode s 0).2:=by
     rw [Lib.size_eq,hex,List.length_drop,← Lib.size_eq]
    generalize ht:s.extract (Utf8.decode s 0).2 s.size=t at hex hsz
    have IH:=ih t (b++cuL ((Utf8.decode s 0).1:Int)) (by omega) (by rw [List.length_append];omega)
    rw [hex] at IH
    obtain ⟨K2,hI⟩:=IH
    generalize hc:(Utf8.decode s 0).1=c at *
    generalize hwd:(Utf8.decode s 0).2=wd at *
    rw [← List.append_assoc]
    by_cases hbig:c < 65536
    ·obtain ⟨K3,hU⟩:=ref_unit.ev (c:Int) (by omega) (by omega)
     have hcu:cuL (c:Int)=unitL (c:Int):=by unfold cuL;rw [if_pos (by omega)]
     refine ⟨K1 + K2 + K3 + 1,fun k hk => ?_⟩
     obtain ⟨k,rfl⟩:∃ m,k=m + 1:=⟨k - 1,by omega⟩
     have hp:=hP k (by omega)
     have hu:=hU k (by omega)
     have hi:=hI k (by omega)
     simp only at hp hu hi
     simp only [understudyref02_Encode.l0]
     rw [hcu] at hi h6
     rw [if_pos (by omega),hp,Option.bind_some]
     simp only
     rw [if_neg (by omega),if_pos (by omega),if_pos (by omega),if_neg (by omega),hu,Option.bind_some,if_pos (by omega),Int.toNat_natCast,ht,hi,hcu]
    ·obtain ⟨K3,hU⟩:=ref_unit.ev (55296 + ((c:Int) - 65536) / 1024) (by omega) (by omega)
     obtain ⟨K4,hV⟩:=ref_unit.ev (56320 + ((c:Int) - 65536) % 1024) (by omega) (by omega)
     have hcu:cuL (c:Int)=unitL (55296 + ((c:Int) - 65536) / 1024)++unitL (56320 + ((c:Int) - 65536) % 1024):=by unfold cuL;rw [if_neg (by omega)]
     refine ⟨K1 + K2 + K3 + K4 + 1,fun k hk => ?_⟩
     obtain ⟨k,rfl⟩:∃ m,k=m + 1:=⟨k - 1,by omega⟩
     have hp:=hP k (by omega)
     have hu:=hU k (by omega)
     have hv:=hV k (by omega)
     have hi:=hI k (by omega)
     simp only at hp hu hv hi
     have e1:wrap64 ((c:Int) - 65536)=(c:Int) - 65536:=w64 (by omega) (by omega)
     have e2:Int.tdiv ((c:Int) - 65536) 1024=((c:Int) - 65536) / 1024:=Int.tdiv_eq_ediv_of_nonneg (by omega)
     have e3:Int.tmod ((c:Int) - 65536) 1024=((c:Int) - 65536) % 1024:=Int.tmod_eq_emod_of_nonneg (by omega)
     have e4:wrap64 (((c:Int) - 65536) / 1024)=((c:Int) - 65536) / 1024:=w64 (by omega) (by omega)
     have e5:wrap64 (55296 + ((c:Int) - 65536) / 1024)=55296 + ((c:Int) - 65536) / 1024:=w64 (by omega) (by omega)
     have e6:wrap64 (56320 + ((c:Int) - 65536) % 1024)=56320 + ((c:Int) - 65536) % 1024:=w64 (by omega) (by omega)
     have h7:=unitL_len (55296 + ((c:Int) - 65536) / 1024)
     simp only [understudyref02_Encode.l0]
     rw [hcu,← List.append_assoc] at hi
     rw [hcu,List.length_append] at h6
     rw [if_pos (by omega),hp,Option.bind_some]
     simp only [e1,e2,e3,e4,e5,e6]
     rw [if_neg (by omega),if_pos (by omega),if_pos (by omega),if_pos (by omega),hu,Option.bind_some,if_pos (by omega),Option.bind_some,hv,Option.bind_some,if_pos (by rw [List.length_append];omega),Int.toNat_natCast,ht,hi,hcu]
     simp only [List.append_assoc]
  ·have e:s.data.toList=[]:=List.length_eq_zero_iff.1 (by rw [← Lib.size_eq];omega)
   refine ⟨1,fun k hk => ?_⟩
   obtain ⟨k,rfl⟩:∃ m,k=m + 1:=⟨k - 1,by omega⟩
   simp only [understudyref02_Encode.l0]
   rw [if_neg (by omega),e,Lib.validD_nil,if_pos rfl,encL_nil,List.append_nil]
theorem ref_Encode.ev (s:ByteArray) (hs:s.size≤1099511627776):Ev (fun k => understudyref02_Encode.f k s) (encV s):=by
 have h:=ref_Encode.ev_l s.size s [] (Nat.le_refl _) (by simp;omega)
 simp only [List.nil_append] at h
 exact h
end Go.Proofs.YtglnhkgodgjepaaDoor.Px
namespace Go.Proofs.YtglnhkgodgjepaaDoor.Px
open Go.RowKit Go.Proofs.YtglnhkgodgjepaaDoorW.PrintWords Go.Proofs.YtglnhkgodgjepaaDoorW.PrintLast Go.Proofs.YtglnhkgodgjepaaDoorW.PrintMore
set_option linter.unusedVariables false
set_option linter.unusedSimpArgs false
theorem ref_is.eq (l:List Cst) (i tag:Int):understudyref04_is.f l i tag=some (isV l i tag):=by
 rw [← pool_is.eq]
 unfold understudyref04_is.f pool_is.f
 by_cases h1:i > 0
 ·rw [if_pos h1,if_pos (by omega)]
 ·rw [if_neg h1,if_neg (by omega)]
theorem ref_bare.at1 (c:Cst):understudyref04_bare.f 1 c.f0 c.f1 c.f2 c.f3 c.f4=some (bareV c):=by
 unfold bareV understudyref04_bare.f
 simp only [understudyref04_bare.j0,beq_iff_eq]
 have e3:∀ (a b:Prop) [Decidable a] [Decidable b],(if a then some (decide b) else some false:Option Bool)=some (decide (a∧b)):=by
  intro a b _ _
  by_cases ha:a
  ·rw [if_pos ha];simp [ha]
  ·rw [if_neg ha];simp [ha]
 have e2:∀ (a:Prop) [Decidable a] (y:Int),(if a then some (y==0) else some false:Option Bool)=some (decide (a∧y=0)):=by
  intro a _ y
  by_cases ha:a
  ·rw [if_pos ha]
   congr 1
   rw [Bool.eq_iff_iff,beq_iff_eq,decide_eq_true_eq]
   exact ⟨fun h => ⟨ha,h⟩,fun h => h.2⟩
  ·rw [if_neg ha];simp [ha]
 simp only [e2,e3]
 by_cases h1:c.f0=1
 ·rw [if_pos h1,if_pos h1]
 rw [if_neg h1,if_neg h1]
 by_cases h3:c.f0=3
 ·rw [if_pos h3,if_pos h3,if_pos (show c.f0=3 ∨ c.f0=5 by omega)]
 rw [if_neg h3]
 by_cases h5:c.f0=5
 ·rw [if_pos h5,if_pos (show c.f0=3 ∨ c.f0=5 by omega)]
 rw [if_neg h5,if_neg (show ¬ (c.f0=3 ∨ c.f0=5) by omega)]
 by_cases h7:c.f0=7
 ·rw [if_pos h7,if_pos h7]
 rw [if_neg h7,if_neg h7]
theorem ref_bare.ev (c:Cst):Ev (fun k => understudyref04_bare.f k c.f0 c.f1 c.f2 c.f3 c.f4) (bareV c):=Ev.of (fun k => understudyref04_bare.mono _ _ _ _ _ k) (ref_bare.at1 c)
theorem ref_one.ev (p:List Cst) (hp:∀ c ∈ p,FitC c) (i:Nat) (hi:i < p.length):Ev (fun k => understudyref04_one.f k p (i:Int)) (oneV p (rd_T33 p (i:Int))):=by
 obtain ⟨c,hc⟩:∃ c,c=rd_T33 p (i:Int):=⟨_,rfl⟩
 have hfit:FitC c:=hc ▸ fit_rd hp _
 rw [← hc]
 unfold understudyref04_one.f
 simp only [← hc]
 refine Ev.congr (fun k => (if_pos (by omega)).trans (if_pos (by omega))) (Ev.bind (ref_bare.ev c) ?_)
 by_cases hb:bareV c=true
 ·refine Ev.congr (fun k => if_pos hb) ?_
  by_cases h1:c.f0=1
  ·have hl:leadsV p c=true:=by unfold leadsV;rw [if_pos (by omega)]
   refine Ev.congr (fun k => if_pos h1) (Ev.bind (ref_Encode.ev c.f1 hfit.1) ?_)
   by_cases he:(encV c.f1).2=0
   ·refine Ev.congr (fun k => if_pos he) ?_
    by_cases hn:(encV c.f1).1.length≤256
    ·have hV:oneV p c=0:=by unfold oneV;rw [if_pos ⟨hb,hl⟩,if_neg (fun h => h.2 ⟨he,hn⟩)]
     rw [hV]
     exact Ev.step (f:=fun _ => some 0) (fun k => by simp only [understudyref04_one.j0];rw [if_neg (by rw [decide_eq_false (by omega)];simp)]) (Ev.now _)
    ·have hV:oneV p c=20:=by unfold oneV;rw [if_pos ⟨hb,hl⟩,if_pos ⟨h1,fun h => hn h.2⟩]
     rw [hV]
     exact Ev.step (f:=fun _ => some 20) (fun k => by simp only [understudyref04_one.j0];rw [if_pos (by rw [decide_eq_true (by omega)])]) (Ev.now _)
   ·have hV:oneV p c=20:=by unfold oneV;rw [if_pos ⟨hb,hl⟩,if_pos ⟨h1,fun h => he h.1⟩]
    rw [hV]
    refine Ev.congr (fun k => if_neg he) ?_
    exact Ev.step (f:=fun _ => some 20) (fun k => by simp only [understudyref04_one.j0];rw [if_pos trivial]) (Ev.now _)
  ·have hV:oneV p c=if leadsV p c=true then 0 else 40:=by
    unfold oneV
    by_cases hl:leadsV p c=true
    ·rw [if_pos ⟨hb,hl⟩,if_neg (fun h => h1 h.1),if_pos hl]
    ·rw [if_neg (fun h => hl h.2),if_neg hl]
   rw [hV]
   unfold leadsV
   refine Ev.congr (fun k => if_neg h1) ?_
   simp only [ref_is.eq,Option.bind_some]
   have two:∀ a b:Bool,(if a=true then (if b=true then some 0 else some 40) else some 40:Option Int)=some (if (a && b)=true then 0 else 40):=by intro a b;cases a <;> cases b <;> rfl
   have one:∀ a:Bool,(if a=true then some 0 else some 40:Option Int)=some (if a=true then 0 else 40):=by intro a;cases a <;> rfl
   by_cases h3:c.f0=3
   ·refine Ev.congr (f:=fun _ => some (if decide (-2147483648≤c.f2∧c.f2≤2147483647)=true then 0 else 40)) (fun k => ?_) ?_
    ·rw [if_pos h3]
     by_cases ha:c.f2 ≥ -2147483648
     ·by_cases hb2:c.f2≤2147483647
      ·rw [if_pos ha,if_pos hb2,if_pos (by rw [decide_eq_true_eq];omega)]
      ·rw [if_pos ha,if_neg hb2,if_neg (by rw [decide_eq_true_eq];omega)]
     ·rw [if_neg ha,if_neg (by rw [decide_eq_true_eq];omega)]
    ·rw [if_neg (show ¬ (c.f0=1 ∨ c.f0=5) by omega),if_pos h3]
     exact Ev.now _
   by_cases h5:c.f0=5
   ·refine Ev.congr (f:=fun _ => some 0) (fun k => by rw [if_neg h3,if_pos h5]) ?_
    rw [if_pos (show c.f0=1 ∨ c.f0=5 by omega),if_pos rfl]
    exact Ev.now _
   by_cases h7:c.f0=7
   ·refine Ev.congr (f:=fun _ => some (if isV p c.f3 1=true then 0 else 40)) (fun k => by rw [if_neg h3,if_neg h5,if_pos h7,one]) ?_
    rw [if_neg (show ¬ (c.f0=1 ∨ c.f0=5) by omega),if_neg h3,if_pos h7]
    exact Ev.now _
   by_cases h12:c.f0=12
   ·refine Ev.congr (f:=fun _ => some (if (isV p c.f3 1 && isV p c.f4 1)=true then 0 else 40)) (fun k => by rw [if_neg h3,if_neg h5,if_neg h7,if_pos h12,two]) ?_
    rw [if_neg (show ¬ (c.f0=1 ∨ c.f0=5) by omega),if_neg h3,if_neg h7,if_pos h12]
    exact Ev.now _
   have last:∀ b:Bool,Ev (fun k => understudyref04_one.j1 k p b c.f0 c.f1 c.f2 c.f3 c.f4) (if b=true then (if (isV p c.f3 7 && isV p c.f4 12)=true then 0 else 40) else 40):=by
    intro b
    refine Ev.step (f:=fun _ => some (if b=true then (if (isV p c.f3 7 && isV p c.f4 12)=true then 0 else 40) else 40)) (fun k => ?_) (Ev.now _)
    simp only [understudyref04_one.j1,ref_is.eq,Option.bind_some]
    cases b
    ·rfl
    ·exact two _ _
   rw [if_neg (show ¬ (c.f0=1 ∨ c.f0=5) by omega),if_neg h3,if_neg h7,if_neg h12]
   by_cases h9:c.f0=9
   ·refine Ev.congr (fun k => by rw [if_neg h3,if_neg h5,if_neg h7,if_neg h12,if_pos h9]) ?_
    rw [if_pos (show c.f0=9 ∨ c.f0=10 by omega)]
    have:=last (c.f0==9)
    rw [if_pos (beq_iff_eq.2 h9)] at this
    exact this
   ·refine Ev.congr (fun k => by rw [if_neg h3,if_neg h5,if_neg h7,if_neg h12,if_neg h9]) ?_
    have:=last (c.f0==10)
    by_cases h10:c.f0=10
    ·rw [if_pos (show c.f0=9 ∨ c.f0=10 by omega)]
     rw [if_pos (beq_iff_eq.2 h10)] at this
     exact this
    ·rw [if_neg (show ¬ (c.f0=9 ∨ c.f0=10) by omega)]
     rw [if_neg (fun h => h10 (beq_iff_eq.1 h))] at this
     exact this
 ·have hV:oneV p c=40:=by unfold oneV;rw [if_neg (fun h => hb h.1)]
  rw [hV]
  exact Ev.congr (fun k => if_neg hb) (Ev.now _)
theorem ref_Check.ev_l (p:List Cst) (hp:∀ c ∈ p,FitC c) (hl:p.length≤1024):∀ n (i:Nat),p.length≤i + n→i≤p.length→Ev (fun k => understudyref04_Check.l0 k p (i:Int)) (chkV n p i):=by
 have stop:∀ i:Nat,¬ i < p.length→Ev (fun k => understudyref04_Check.l0 k p (i:Int)) 0:=fun i hi => Ev.step (f:=fun _ => some 0) (fun k => by simp only [understudyref04_Check.l0];rw [if_neg (by omega)]) (Ev.now _)
 intro n
 induction n with
 | zero => intro i h h2;exact stop i (by omega)
 | succ n ih =>
  intro i h h2
  show Ev _ (if i < p.length then _ else _)
  by_cases hi:i < p.length
  ·rw [if_pos hi]
   refine Ev.step (f:=fun k => (understudyref04_one.f k p (i:Int)).bind fun t170 => if t170=0 then understudyref04_Check.l0 k p ((i + 1:Nat):Int) else some t170) (fun k => ?_) ?_
   ·simp only [understudyref04_Check.l0]
    rw [if_pos (by omega),w64 (by omega) (by omega)]
    rfl
   refine Ev.bind (ref_one.ev p hp i hi) ?_
   by_cases h0:oneV p (rd_T33 p (i:Int))=0
   ·rw [if_pos h0]
    exact Ev.congr (fun k => if_pos h0) (ih (i + 1) (by omega) (by omega))
   ·rw [if_neg h0]
    exact Ev.congr (fun k => if_neg h0) (Ev.now _)
  ·rw [if_neg hi]
   exact stop i hi
theorem ref_Check.ev (p:List Cst) (hp:∀ c ∈ p,FitC c):Ev (fun k => understudyref04_Check.f k p) (checkV p):=by
 unfold checkV
 have j0:∀ b:Bool,∀ r,(b=false→Ev (fun k => understudyref04_Check.l0 k p 1) r)→Ev (fun k => understudyref04_Check.j0 k p b) (if b=true then 40 else r):=by
  intro b r hr
  cases b with
  | true => exact Ev.step (f:=fun _ => some 40) (fun k => by simp only [understudyref04_Check.j0];rw [if_pos trivial]) (Ev.now _)
  | false => exact Ev.step (fun k => by simp only [understudyref04_Check.j0];rw [if_neg (by simp)]) (hr rfl)
 by_cases c1:p.length > 1024
 ·rw [if_pos c1]
  exact Ev.congr (f:=fun _ => some 2) (fun k => by unfold understudyref04_Check.f;rw [if_pos (by omega)]) (Ev.now _)
 rw [if_neg c1]
 by_cases c2:p.length=0
 ·rw [if_pos c2]
  exact Ev.congr (fun k => by unfold understudyref04_Check.f;rw [if_neg (by omega),if_pos (by omega)]) (j0 true 0 (fun h => by cases h))
 rw [if_neg c2]
 have hz:(!((rd_T33 p 0).f0==0) || (!(((rd_T33 p 0).f1).toList==([]:List UInt8)) || (!((rd_T33 p 0).f2==0) || (!((rd_T33 p 0).f3==0) || (!((rd_T33 p 0).f4==0))))))=!(zeroV (rd_T33 p 0)):=by
  unfold zeroV
  rw [Bool.eq_iff_iff]
  simp only [Bool.or_eq_true,Bool.not_eq_true',beq_eq_false_iff_ne,decide_eq_false_iff_not]
  simp only [ne_eq]
  by_cases a1:(rd_T33 p 0).f0=0 <;> by_cases a2:(rd_T33 p 0).f1.toList=[] <;> by_cases a3:(rd_T33 p 0).f2=0 <;> by_cases a4:(rd_T33 p 0).f3=0 <;> simp [a1,a2,a3,a4]
 have hj:=j0 (!(zeroV (rd_T33 p 0))) (chkV p.length p 1) (fun _ => ref_Check.ev_l p hp (by omega) p.length 1 (by omega) (by omega))
 refine Ev.congr (f:=fun k => understudyref04_Check.j0 k p (!(zeroV (rd_T33 p 0)))) (fun k => ?_) ?_
 ·unfold understudyref04_Check.f
  rw [if_neg (by omega),if_neg (by omega),if_pos (by omega),hz]
 ·cases h:zeroV (rd_T33 p 0)
  ·rw [h] at hj;exact hj
  ·rw [h] at hj;exact hj
end Go.Proofs.YtglnhkgodgjepaaDoor.Px
namespace Go.Proofs.YtglnhkgodgjepaaDoor.Px
open Go.RowKit Go.Proofs.YtglnhkgodgjepaaDoorW.PrintWords Go.Proofs.YtglnhkgodgjepaaDoorW.PrintLast Go.Proofs.YtglnhkgodgjepaaDoorW.PrintMore
set_option linter.unusedVariables false
set_option linter.unusedSimpArgs false
theorem pool_awake.eq:understudylaw04_awake.f=some true:=by
 unfold understudylaw04_awake.f
 rw [pool_Text.eq,Option.bind_some]
 have h:textV [(⟨0,(⟨#[]⟩:ByteArray),0,0,0⟩:S33),(⟨1,(⟨#[65]⟩:ByteArray),0,0,0⟩:S33)] 1=((⟨#[65]⟩:ByteArray),true):=rfl
 rw [h,Lib.toList_data]
 rfl
end Go.Proofs.YtglnhkgodgjepaaDoor.Px
namespace Go.Proofs.YtglnhkgodgjepaaDoor.Px
open Go.RowKit Go.Proofs.YtglnhkgodgjepaaDoorW.PrintWords Go.Proofs.YtglnhkgodgjepaaDoorW.PrintLast Go.Proofs.YtglnhkgodgjepaaDoorW.PrintMore
set_option linter.unusedVariables false
set_option linter.unusedSimpArgs false
theorem ref_take.ev (L:List Int) (hL:IsBytes L) (hne:0 < L.length):Ev (fun k => understudyref02_take.f k L) (match takeV L with|some (v,m) => (v,(m:Int))|none => (0,0)):=by
 have h0:=rd_byte hL 0
 have h1:=rd_byte hL 1
 have h2:=rd_byte hL 2
 refine ⟨4,fun k hk => ?_⟩
 obtain ⟨k,rfl⟩:∃ m,k=m + 4:=⟨k - 4,by omega⟩
 unfold takeV V2 V3
 simp only [understudyref02_take.f,understudyref02_take.j0,understudyref02_take.j1,understudyref02_take.j2]
 generalize rd L 0=a at *
 generalize rd L 1=b at *
 generalize rd L 2=c at *
 rw [w64 (x:=a) (by omega) (by omega),w64 (x:=b) (by omega) (by omega),w64 (x:=c) (by omega) (by omega)]
 rw [w64 (x:=a - 192) (by omega) (by omega),w64 (x:=a - 224) (by omega) (by omega),w64 (x:=b - 128) (by omega) (by omega)]
 rw [w64 (x:=(a - 192) * 64) (by omega) (by omega),w64 (x:=(a - 224) * 4096) (by omega) (by omega),w64 (x:=(b - 128) * 64) (by omega) (by omega)]
 rw [w64 (x:=(a - 192) * 64 + b) (by omega) (by omega),w64 (x:=(a - 224) * 4096 + (b - 128) * 64) (by omega) (by omega)]
 rw [w64 (x:=(a - 192) * 64 + b - 128) (by omega) (by omega),w64 (x:=(a - 224) * 4096 + (b - 128) * 64 + c) (by omega) (by omega)]
 rw [w64 (x:=(a - 224) * 4096 + (b - 128) * 64 + c - 128) (by omega) (by omega)]
 rw [show (a - 192) * 64 + b - 128=(a - 192) * 64 + (b - 128) by omega,show (a - 224) * 4096 + (b - 128) * 64 + c - 128=(a - 224) * 4096 + (b - 128) * 64 + (c - 128) by omega]
 simp only [decide_eq_true_eq,Bool.false_eq_true,if_false]
 rw [if_pos (by omega)]
 by_cases c1:1≤a∧a≤127
 ·rw [if_pos (by omega),if_pos c1.2,if_pos c1];rfl
 ·rw [if_neg c1]
  have e1:∀ x y:Option (Int × Int),(if a ≥ 1 then if a≤127 then x else y else y)=y:=by
   intro x y
   by_cases h:a ≥ 1
   ·rw [if_pos h,if_neg (by omega)]
   ·rw [if_neg h]
  rw [e1]
  by_cases c2:192≤a∧a≤223
  ·rw [if_pos c2.1,if_pos c2.2,if_neg (show ¬ a ≥ 224 by omega)]
   rw [if_neg (show ¬ (224≤a∧a≤239∧3≤L.length∧128≤b∧b≤191∧128≤c∧c≤191∧2048≤(a - 224) * 4096 + (b - 128) * 64 + (c - 128)) by omega)]
   by_cases c3:2≤L.length
   ·rw [if_pos (by omega),if_pos (by omega)]
    by_cases c4:128≤b
    ·rw [if_pos c4]
     by_cases c5:b≤191
     ·rw [if_pos c5,if_pos (by omega)]
      by_cases c6:(a - 192) * 64 + (b - 128)=0
      ·rw [if_pos c6,if_pos ⟨c2.1,c2.2,c3,c4,c5,.inl c6⟩];rfl
      ·rw [if_neg c6]
       by_cases c7:(a - 192) * 64 + (b - 128) ≥ 128
       ·rw [if_pos c7,if_pos ⟨c2.1,c2.2,c3,c4,c5,.inr c7⟩];rfl
       ·rw [if_neg c7,if_neg (by omega)]
     ·rw [if_neg c5,if_neg (by omega)]
    ·rw [if_neg c4,if_neg (by omega)]
   ·rw [if_neg (by omega),if_neg (by omega)]
  ·rw [if_neg (show ¬ (192≤a∧a≤223∧2≤L.length∧128≤b∧b≤191∧((a - 192) * 64 + (b - 128)=0 ∨ 128≤(a - 192) * 64 + (b - 128))) by omega)]
   have e2:∀ x y:Option (Int × Int),(if a ≥ 192 then if a≤223 then x else y else y)=y:=by
    intro x y
    by_cases h:a ≥ 192
    ·rw [if_pos h,if_neg (by omega)]
    ·rw [if_neg h]
   rw [e2]
   by_cases c3:224≤a∧a≤239∧3≤L.length∧128≤b∧b≤191∧128≤c∧c≤191
   ·rw [if_pos (by omega),if_pos (by omega),if_pos (by omega),if_pos (by omega),if_pos (by omega),if_pos (by omega),if_pos (by omega),if_pos (by omega),if_pos (by omega),if_pos (by omega),if_pos (by omega)]
    by_cases c4:(a - 224) * 4096 + (b - 128) * 64 + (c - 128) ≥ 2048
    ·rw [if_pos c4,if_pos (by omega)];rfl
    ·rw [if_neg c4,if_neg (by omega)]
   ·rw [if_neg (show ¬ (224≤a∧a≤239∧3≤L.length∧128≤b∧b≤191∧128≤c∧c≤191∧2048≤(a - 224) * 4096 + (b - 128) * 64 + (c - 128)) by omega)]
    by_cases d1:a ≥ 224
    ·rw [if_pos d1]
     by_cases d2:a≤239
     ·rw [if_pos d2]
      by_cases d3:(L.length:Int) ≥ 3
      ·rw [if_pos d3,if_pos (by omega)]
       by_cases d4:b ≥ 128
       ·rw [if_pos d4]
        by_cases d5:b≤191
        ·rw [if_pos d5,if_pos (by omega)]
         by_cases d6:c ≥ 128
         ·rw [if_pos d6,if_neg (by omega)]
         ·rw [if_neg d6]
        ·rw [if_neg d5]
       ·rw [if_neg d4]
      ·rw [if_neg d3]
     ·rw [if_neg d2]
    ·rw [if_neg d1]
theorem ref_utf8.eq (v:Int) (h0:0≤v) (h1:v≤1114111):understudyref02_utf8.f v=some (utf8L v):=by
 unfold understudyref02_utf8.f utf8L
 have td:∀ n:Int,0 < n→Int.tdiv v n=v / n:=fun n hn => Int.tdiv_eq_ediv_of_nonneg h0
 have tm:∀ (x n:Int),0≤x→Int.tmod x n=x % n:=fun x n hx => Int.tmod_eq_emod_of_nonneg hx
 by_cases c1:v < 128
 ·rw [if_pos c1,if_pos c1,show v % 256=v by omega]
 ·rw [if_neg c1,if_neg c1]
  rw [td 64 (by omega),td 4096 (by omega),td 262144 (by omega),w64 (x:=v / 64) (by omega) (by omega),w64 (x:=v / 4096) (by omega) (by omega),w64 (x:=v / 262144) (by omega) (by omega)]
  rw [tm v 64 h0,tm (v / 64) 64 (by omega),tm (v / 4096) 64 (by omega)]
  rw [w64 (x:=128 + v % 64) (by omega) (by omega),w64 (x:=128 + v / 64 % 64) (by omega) (by omega),w64 (x:=128 + v / 4096 % 64) (by omega) (by omega),w64 (x:=192 + v / 64) (by omega) (by omega),w64 (x:=224 + v / 4096) (by omega) (by omega),w64 (x:=240 + v / 262144) (by omega) (by omega)]
  rw [show (128 + v % 64) % 256=128 + v % 64 by omega,show (128 + v / 64 % 64) % 256=128 + v / 64 % 64 by omega,show (128 + v / 4096 % 64) % 256=128 + v / 4096 % 64 by omega]
  by_cases c2:v < 2048
  ·rw [if_pos c2,if_pos c2,show (192 + v / 64) % 256=192 + v / 64 by omega]
  ·rw [if_neg c2,if_neg c2]
   by_cases c3:v < 65536
   ·rw [if_pos c3,if_pos c3,show (224 + v / 4096) % 256=224 + v / 4096 by omega]
   ·rw [if_neg c3,if_neg c3,show (240 + v / 262144) % 256=240 + v / 262144 by omega]
theorem ref_Decode.ev_l:∀ (n:Nat) (L o:List Int),IsBytes L→L.length < n→o.length + L.length + 8 < 140737488355328→Ev (fun k => understudyref02_Decode.l0 k L o) (decV n L o):=by
 intro n
 induction n with
 | zero => intro L o _ h;omega
 | succ n ih =>
  intro L o hL hn ho
  simp only [decV]
  have hbad:∀ (x4:List Int) (x5 x6:Int),Ev (fun k => understudyref02_Decode.j1 k L x4 x5 x6 true) badV:=fun x4 x5 x6 => Ev.step (f:=fun _ => some badV) (fun k => by simp [understudyref02_Decode.j1]) (Ev.now _)
  by_cases he:L=[]
  ·subst he
   refine Ev.step (f:=fun _ => some (strOfNums o,0)) (fun k => ?_) (Ev.now _)
   simp [understudyref02_Decode.l0]
  ·have hp:=len_pos he
   rw [if_neg he]
   have ht:=ref_take.ev L hL hp
   refine Ev.step (f:=fun k => (understudyref02_take.f k L).bind fun bt178 => (if bt178.2=0 then (understudyref02_Decode.j1 k L o bt178.1 bt178.2 true) else (if bt178.1 ≥ 56320 then (understudyref02_Decode.j1 k L o bt178.1 bt178.2 (decide (bt178.1≤57343))) else (understudyref02_Decode.j1 k L o bt178.1 bt178.2 false)))) (fun k => ?_) ?_
   ·simp only [understudyref02_Decode.l0]
    rw [if_pos (by omega)]
   refine Ev.bind ht ?_
   cases e:takeV L with
   | none => simp only [if_true];exact hbad _ _ _
   | some p =>
    obtain ⟨v,m⟩:=p
    obtain ⟨v0,v1,m1,m3,ml⟩:=takeV_ok hL e
    simp only [if_neg (show ¬ ((m:Int)=0) by omega)]
    by_cases c1:56320≤v∧v≤57343
    ·rw [if_pos c1]
     refine Ev.congr (f:=fun k => understudyref02_Decode.j1 k L o v m true) (fun k => by rw [if_pos (by omega),decide_eq_true c1.2]) (hbad _ _ _)
    ·rw [if_neg c1]
     refine Ev.congr (f:=fun k => understudyref02_Decode.j1 k L o v m false) (fun k => ?_) ?_
     ·by_cases c:v ≥ 56320
      ·rw [if_pos c,decide_eq_false (by omega)]
      ·rw [if_neg c]
     have hd:(L.drop m).length=L.length - m:=List.length_drop
     refine Ev.step (f:=fun k => understudyref02_Decode.j2 k (L.drop m) o v (decide (v < 55296 ∨ 56319 < v))) (fun k => ?_) ?_
     ·simp only [understudyref02_Decode.j1]
      rw [if_neg (by simp),if_pos (by omega),if_pos (by omega),Option.bind_some,Int.toNat_natCast]
      by_cases c:v < 55296
      ·rw [if_pos c,decide_eq_true (.inl c)]
      ·rw [if_neg c]
       congr 1
       exact decide_eq_decide.2 (by omega)
     by_cases c2:v < 55296 ∨ 56319 < v
     ·rw [if_pos c2,decide_eq_true c2]
      have hu:=(takeV_len hL e).1
      refine Ev.step (f:=fun k => understudyref02_Decode.l0 k (L.drop m) (o++utf8L v)) (fun k => ?_) (ih _ _ (hL.drop m) (by omega) (by rw [List.length_append];omega))
      simp only [understudyref02_Decode.j2,if_true]
      rw [ref_utf8.eq v v0 (by omega),Option.bind_some,if_pos (by omega)]
     ·rw [if_neg c2,decide_eq_false c2]
      by_cases c3:L.drop m=[]
      ·rw [if_pos c3]
       refine Ev.step (f:=fun _ => some badV) (fun k => ?_) (Ev.now _)
       simp [understudyref02_Decode.j2,c3]
      ·rw [if_neg c3]
       have hp2:=len_pos c3
       have ht2:=ref_take.ev _ (hL.drop m) hp2
       refine Ev.step (f:=fun k => (understudyref02_take.f k (L.drop m)).bind fun bt191 => (if bt191.2=0 then (some ((⟨#[]⟩:ByteArray),20)) else (if bt191.1 < 56320 then (some ((⟨#[]⟩:ByteArray),20)) else (if bt191.1 > 57343 then (some ((⟨#[]⟩:ByteArray),20)) else (if 0≤bt191.2 then (if bt191.2≤((L.drop m).length:Int) then ((understudyref02_utf8.f (wrap64 ((wrap64 ((wrap64 (65536 + (wrap64 ((wrap64 (v - 55296)) * 1024)))) + bt191.1)) - 56320))).bind fun t198 => (if o.length + t198.length < 140737488355328 then (understudyref02_Decode.l0 k ((L.drop m).drop (bt191.2:Int).toNat) (o++t198)) else (none))) else (none)) else (none)))))) (fun k => ?_) ?_
       ·simp only [understudyref02_Decode.j2]
        rw [if_neg (by simp),if_neg (by omega)]
       refine Ev.bind ht2 ?_
       cases e2:takeV (L.drop m) with
       | none => simp only [if_true];exact Ev.now _
       | some p =>
        obtain ⟨u,q⟩:=p
        obtain ⟨u0,u1,q1,q3,ql⟩:=takeV_ok (hL.drop m) e2
        simp only [if_neg (show ¬ ((q:Int)=0) by omega)]
        by_cases c4:56320≤u∧u≤57343
        ·rw [if_pos c4]
         have hw:wrap64 ((wrap64 ((wrap64 (65536 + (wrap64 ((wrap64 (v - 55296)) * 1024)))) + u)) - 56320)=pairN v u:=by
          unfold pairN
          rw [w64 (x:=v - 55296) (by omega) (by omega),w64 (x:=(v - 55296) * 1024) (by omega) (by omega),w64 (x:=65536 + (v - 55296) * 1024) (by omega) (by omega),w64 (x:=65536 + (v - 55296) * 1024 + u) (by omega) (by omega),w64 (by omega) (by omega)]
          omega
         have hr:65536≤pairN v u∧pairN v u≤1114111:=by unfold pairN;omega
         have hu:=utf8L_len (pairN v u)
         have hm3:=(takeV_len hL e).2 (by omega)
         have hq3:=(takeV_len (hL.drop m) e2).2 (by omega)
         have hd2:((L.drop m).drop q).length=L.length - m - q:=by rw [List.length_drop,hd]
         refine Ev.congr (f:=fun k => understudyref02_Decode.l0 k ((L.drop m).drop q) (o++utf8L (pairN v u))) (fun k => ?_) (ih _ _ ((hL.drop m).drop q) (by omega) (by rw [List.length_append];omega))
         rw [if_neg (by omega),if_neg (by omega),if_pos (by omega),if_pos (by omega),hw,ref_utf8.eq _ (by omega) (by omega),Option.bind_some,if_pos (by omega),Int.toNat_natCast]
        ·rw [if_neg c4]
         refine Ev.congr (f:=fun _ => some badV) (fun k => ?_) (Ev.now _)
         by_cases c:u < 56320
         ·rw [if_pos c]
         ·rw [if_neg c,if_pos (by omega)]
theorem ref_Decode.ev (L:List Int) (hL:IsBytes L) (h:L.length≤140737488351232):Ev (fun k => understudyref02_Decode.f k L) (DecV L):=ref_Decode.ev_l _ L [] hL (by omega) (by simp;omega)
end Go.Proofs.YtglnhkgodgjepaaDoor.Px
namespace Go.Proofs.YtglnhkgodgjepaaDoor.Px
open Go.RowKit Go.Proofs.YtglnhkgodgjepaaDoorW.PrintWords Go.Proofs.YtglnhkgodgjepaaDoorW.PrintLast Go.Proofs.YtglnhkgodgjepaaDoorW.PrintMore
set_option linter.unusedVariables false
set_option linter.unusedSimpArgs false
theorem rd_rdL {bs:List Int} {p n i:Nat} (h:p + n≤bs.length) (hi:i < n):rd (rdL bs p n) (i:Int)=rd bs ((p:Int) + (i:Int)):=by
 unfold rdL
 rw [if_pos h]
 unfold rd
 rw [Int.toNat_natCast,show ((p:Int) + (i:Int)).toNat=p + i by omega,List.getD_eq_getElem?_getD,List.getD_eq_getElem?_getD,List.getElem?_drop,List.getElem?_take,if_pos (by omega)]
theorem refU.ev_l {bs:List Int} (hb:IsBytes bs) (hl:bs.length≤140737488351232) (p n:Nat) (h8:n≤8) (h:p + n≤bs.length):∀ m (i:Nat),n≤i + m→i≤n→Ev (fun k => understudyref01_Reader_Uint.l0 k (n:Int) (beV ((rdL bs p n).take i)) (i:Int) bs (p:Int)) (beV (rdL bs p n),0,((p + n:Nat):Int)):=by
 have hlen:=rdL_len h
 have hbl:=rdL_bytes hb p n
 have stop:∀ i:Nat,i=n→Ev (fun k => understudyref01_Reader_Uint.l0 k (n:Int) (beV ((rdL bs p n).take i)) (i:Int) bs (p:Int)) (beV (rdL bs p n),0,((p + n:Nat):Int)):=by
  intro i hi
  have e:wrap64 ((p:Int) + (n:Int))=((p + n:Nat):Int):=by unfold wrap64;omega
  refine Ev.step (f:=fun _ => some (beV ((rdL bs p n).take i),0,((p + n:Nat):Int))) (fun k => by simp only [understudyref01_Reader_Uint.l0];rw [if_neg (by omega),e]) ?_
  rw [List.take_of_length_le (by omega)]
  exact Ev.now _
 intro m
 induction m with
 | zero => intro i h1 hi;exact stop i (by omega)
 | succ m ih =>
  intro i h1 hi
  by_cases hlt:i < n
  ·have hA:n≤i + 1 + m:=by omega
   have hB:i + 1≤n:=by omega
   have hC:(i:Int) < (n:Int):=by omega
   have hD:wrap64 ((p:Int) + (i:Int))=(p:Int) + (i:Int):=by unfold wrap64;omega
   have hE:0≤(p:Int) + (i:Int):=by omega
   have hF:(p:Int) + (i:Int) < (bs.length:Int):=by omega
   have hG:=rd_rdL h hlt
   have hli:i < (rdL bs p n).length:=by omega
   generalize hll:rdL bs p n=l at *
   have hr:=beV_range (l.take i) (hbl.take i)
   rw [List.length_take,Nat.min_eq_left (by omega)] at hr
   have hp:=pow256 (i:=i) (by omega)
   have hc:=rd_byte hbl (i:Int)
   have e1:IntKind.u64.wrap (beV (l.take i) * 256)=beV (l.take i) * 256:=wraps_u64 _ (by omega) (by omega)
   have e2:IntKind.u64.wrap (rd l (i:Int))=rd l (i:Int):=wraps_u64 _ hc.1 (by omega)
   have e3:bits .or .u64 (beV (l.take i) * 256) (rd l (i:Int))=beV (l.take (i + 1)):=by
    rw [or_u64 (by omega) (by omega) (by omega) hc.1 hc.2,rd_take hli,beV_snoc]
   have e4:wrap64 ((i:Int) + 1)=((i + 1:Nat):Int):=by unfold wrap64;omega
   refine Ev.step (f:=fun k => understudyref01_Reader_Uint.l0 k (n:Int) (beV (l.take (i + 1))) ((i + 1:Nat):Int) bs (p:Int)) (fun k => ?_) (ih (i + 1) hA hB)
   simp only [understudyref01_Reader_Uint.l0]
   rw [if_pos hC,hD,if_pos hE,if_pos hF,← hG,e1,e2,e3,e4]
  ·exact stop i (by omega)
theorem refU.ev {bs:List Int} (hb:IsBytes bs) (hl:bs.length≤140737488351232) (p n:Nat) (h1:1≤n) (h8:n≤8) (hp:p≤bs.length):Ev (fun k => understudyref01_Reader_Uint.f k bs (p:Int) (n:Int)) ((uV bs p n).1,(uV bs p n).2.1,((uV bs p n).2.2:Int)):=by
 unfold understudyref01_Reader_Uint.f
 refine Ev.congr (f:=fun k => understudyref01_Reader_Uint.j0 k (n:Int) false bs (p:Int)) (fun k => by rw [if_neg (by omega),decide_eq_false (by omega)]) ?_
 have e:wrap64 ((bs.length:Int) - (p:Int))=(bs.length:Int) - (p:Int):=by unfold wrap64;omega
 by_cases h:p + n≤bs.length
 ·have hE:(uV bs p n).2.1=0:=if_pos h
  have hP:(uV bs p n).2.2=p + n:=if_pos h
  rw [hE,hP]
  refine Ev.step (f:=fun k => understudyref01_Reader_Uint.l0 k (n:Int) 0 0 bs (p:Int)) (fun k => by simp only [understudyref01_Reader_Uint.j0];rw [if_neg (by simp),e,if_neg (by omega)]) ?_
  exact refU.ev_l hb hl p n h8 h n 0 (by omega) (by omega)
 ·have hE:(uV bs p n).2.1=3:=if_neg h
  have hP:(uV bs p n).2.2=p:=if_neg h
  have hX:(uV bs p n).1=0:=by
   show beV (rdL bs p n)=0
   unfold rdL
   rw [if_neg h]
   rfl
  rw [hE,hP,hX]
  refine Ev.step (f:=fun k => some (0,3,(p:Int))) (fun k => by simp only [understudyref01_Reader_Uint.j0];rw [if_neg (by simp),e,if_pos (by omega)]) (Ev.now _)
theorem refI.ev {bs:List Int} (hb:IsBytes bs) (hl:bs.length≤140737488351232) (p n:Nat) (hn:n=4 ∨ n=8) (hp:p≤bs.length):Ev (fun k => understudyref01_Reader_Int.f k bs (p:Int) (n:Int)) ((iV bs p n).1,(iV bs p n).2.1,((iV bs p n).2.2:Int)):=by
 unfold understudyref01_Reader_Int.f
 refine Ev.congr (fun k => if_pos (by omega)) (Ev.bind (refU.ev hb hl p n (by omega) (by omega) hp) ?_)
 by_cases h:p + n≤bs.length
 ·have hE:(uV bs p n).2.1=0:=if_pos h
  have hP:(uV bs p n).2.2=p + n:=if_pos h
  have hI:iV bs p n=(intV (rdL bs p n),0,p + n):=if_pos h
  have hX:(uV bs p n).1=beV (rdL bs p n):=rfl
  rw [hI]
  simp only [hE,hP,hX,if_true]
  have hlen:=rdL_len h
  have hbl:=rdL_bytes hb p n
  generalize rdL bs p n=l at hlen hbl ⊢
  cases l with
  | nil => simp at hlen;omega
  | cons b t =>
   have hc:=hbl b List.mem_cons_self
   have ht:IsBytes t:=fun x hx => hbl x (List.mem_cons_of_mem _ hx)
   have hr:=beV_range t ht
   rw [← intV_cons,beV_cons]
   rcases hn with rfl|rfl
   ·have h3:t.length=3:=by simp at hlen;exact hlen
    rw [h3] at hr ⊢
    generalize beV t=y at hr ⊢
    refine Ev.congr (fun k => if_pos (by omega)) ?_
    by_cases hb1:b < 128
    ·refine Ev.congr (f:=fun _ => some (b * 256 ^ 3 + y,0,((p + 4:Nat):Int))) (fun k => ?_) (by rw [if_pos hb1];exact Ev.now _)
     rw [if_neg (by omega)]
     congr 2
     unfold wrap64;omega
    ·refine Ev.congr (f:=fun _ => some ((b - 256) * 256 ^ 3 + y,0,((p + 4:Nat):Int))) (fun k => ?_) (by rw [if_neg hb1];exact Ev.now _)
     rw [if_pos (by omega)]
     congr 2
     unfold wrap64;omega
   ·have h7:t.length=7:=by simp at hlen;exact hlen
    rw [h7] at hr ⊢
    generalize beV t=y at hr ⊢
    refine Ev.congr (fun k => if_pos (by omega)) ?_
    by_cases hb1:b < 128
    ·refine Ev.congr (f:=fun _ => some (b * 256 ^ 7 + y,0,((p + 8:Nat):Int))) (fun k => ?_) (by rw [if_pos hb1];exact Ev.now _)
     rw [if_neg (by omega)]
     congr 2
     unfold wrap64;omega
    ·refine Ev.congr (f:=fun _ => some ((b - 256) * 256 ^ 7 + y,0,((p + 8:Nat):Int))) (fun k => ?_) (by rw [if_neg hb1];exact Ev.now _)
     rw [if_neg (by omega)]
     congr 2
     unfold wrap64;omega
 ·have hE:(uV bs p n).2.1=3:=if_neg h
  have hP:(uV bs p n).2.2=p:=if_neg h
  have hI:iV bs p n=(0,3,p):=if_neg h
  rw [hI]
  simp only [hE,hP]
  exact Ev.congr (fun k => if_neg (by omega)) (Ev.now _)
def sameR (r:Int × ByteArray × Int × Int × Int × Int × Int) (v:Cst × Int × Nat):Prop :=
 r.2.2.2.2.2.1=v.2.1∧(v.2.1=0→(⟨r.1,r.2.1,r.2.2.1,r.2.2.2.1,r.2.2.2.2.1⟩:Cst)=v.1∧r.2.2.2.2.2.2=(v.2.2:Int))
theorem sameR.mk (v:Cst × Int × Nat) (c:Cst) (e:Int) (p:Nat) (h:v=(c,e,p)):sameR (c.f0,c.f1,c.f2,c.f3,c.f4,e,(p:Int)) v:=by subst h;exact ⟨rfl,fun _ => ⟨rfl,rfl⟩⟩
theorem uP_le {bs:List Int} {p n:Nat} (h:p≤bs.length):(uV bs p n).2.2≤bs.length:=rdP_le h
theorem w64' {x:Int} (h0:0≤x) (h1:x < 65536):wrap64 x=x:=by unfold wrap64;omega
theorem ref_read.ev {bs:List Int} (hb:IsBytes bs) (hl:bs.length≤140737488351232) (p:Nat) (hp:p≤bs.length) (t:Int):∃ r,Ev (fun k => understudyref04_read.f k bs (p:Int) t) r∧sameR r (bodyV bs t p):=by
 have hu:=refU.ev hb hl p 2 (by decide) (by decide) hp
 have h2:=u2_range hb p
 have hp2:=uP_le (n:=2) hp
 unfold understudyref04_read.f bodyV
 by_cases h1:t=1
 ·simp only [if_pos h1]
  by_cases h0:(uV bs p 2).2.1=0
  ·simp only [if_pos h0]
   by_cases h3:(uV bs p 2).1 > 256
   ·simp only [if_pos h3]
    exact ⟨_,Ev.bind hu (Ev.congr (fun k => (if_pos h0).trans (if_pos h3)) (Ev.now _)),sameR.mk _ _ _ _ rfl⟩
   simp only [if_neg h3]
   have hB:∀ k:Nat,understudyref01_Reader_Bytes.f bs ((uV bs p 2).2.2:Int) (wrap64 (uV bs p 2).1)=some (rdL bs (uV bs p 2).2.2 (uV bs p 2).1.toNat,rdE bs (uV bs p 2).2.2 (uV bs p 2).1.toNat,((rdP bs (uV bs p 2).2.2 (uV bs p 2).1.toNat:Nat):Int)):=by
    intro _
    rw [w64' h2.1 h2.2]
    generalize (uV bs p 2).2.2=q at *
    generalize (uV bs p 2).1=x at *
    obtain ⟨m,rfl⟩:=Int.eq_ofNat_of_zero_le h2.1
    unfold understudyref01_Reader_Bytes.f rdL rdE rdP
    rw [if_pos (by omega)]
    simp only [Int.toNat_natCast]
    by_cases hs:q + m≤bs.length
    ·rw [if_neg (by omega),if_pos hs,if_pos hs,if_pos hs,show ((q:Int) + (m:Int)).toNat=q + m by omega]
     rfl
    ·rw [if_pos (by omega),if_neg hs,if_neg hs,if_neg hs]
   by_cases h4:rdE bs (uV bs p 2).2.2 (uV bs p 2).1.toNat=0
   ·simp only [if_pos h4]
    refine ⟨_,Ev.bind hu (Ev.congr (fun k => (if_pos h0).trans (if_neg h3)) (Ev.congr (fun k => by rw [hB k];exact (Option.bind_some _ _).trans (if_pos h4)) (Ev.bind (ref_Decode.ev _ (rdL_bytes hb _ _) ?_) (Ev.now _)))),sameR.mk _ _ _ _ rfl⟩
    have:=rdL_le bs (uV bs p 2).2.2 (uV bs p 2).1.toNat
    omega
   ·simp only [if_neg h4]
    exact ⟨_,Ev.bind hu (Ev.congr (fun k => (if_pos h0).trans (if_neg h3)) (Ev.congr (fun k => by rw [hB k];exact (Option.bind_some _ _).trans (if_neg h4)) (Ev.now _))),sameR.mk _ _ _ _ rfl⟩
  ·simp only [if_neg h0]
   exact ⟨_,Ev.bind hu (Ev.congr (fun k => if_neg h0) (Ev.now _)),sameR.mk _ _ _ _ rfl⟩
 simp only [if_neg h1]
 by_cases h3:t=3
 ·simp only [if_pos h3]
  exact ⟨_,Ev.bind (refI.ev hb hl p 4 (.inl rfl) hp) (Ev.now _),sameR.mk _ _ _ _ rfl⟩
 simp only [if_neg h3]
 by_cases h5:t=5
 ·simp only [if_pos h5]
  exact ⟨_,Ev.bind (refI.ev hb hl p 8 (.inr rfl) hp) (Ev.now _),sameR.mk _ _ _ _ rfl⟩
 simp only [if_neg h5]
 by_cases h7:t=7
 ·simp only [if_pos h7]
  refine ⟨_,Ev.bind hu (Ev.now _),?_⟩
  rw [w64' h2.1 h2.2]
  exact sameR.mk _ _ _ _ rfl
 simp only [if_neg h7]
 have hj:∀ b:Bool,∃ r,Ev (fun k => understudyref04_read.j0 k b bs (p:Int) t (⟨#[]⟩:ByteArray) 0 0 0) r∧sameR r (if b=true then (⟨t,⟨#[]⟩,0,(uV bs p 2).1,(twoV bs (uV bs p 2).2.2 (uV bs p 2).2.1).1⟩,(twoV bs (uV bs p 2).2.2 (uV bs p 2).2.1).2.1,(twoV bs (uV bs p 2).2.2 (uV bs p 2).2.1).2.2) else (⟨t,⟨#[]⟩,0,0,0⟩,40,p)):=by
  intro b
  cases b with
  | false => exact ⟨_,Ev.step (f:=fun _ => _) (fun k => by simp only [understudyref04_read.j0];rw [if_neg (by simp)]) (Ev.now _),sameR.mk _ _ _ _ rfl⟩
  | true =>
   simp only [if_true]
   have hst:∀ r,Ev (fun k => (understudyref01_Reader_Uint.f k bs (p:Int) 2).bind fun bt => if bt.2.1=0 then (understudyref01_Reader_Uint.f k bs bt.2.2 2).bind fun bu => some (t,(⟨#[]⟩:ByteArray),(0:Int),wrap64 bt.1,wrap64 bu.1,bu.2.1,bu.2.2) else some (t,(⟨#[]⟩:ByteArray),0,0,0,bt.2.1,bt.2.2)) r→Ev (fun k => understudyref04_read.j0 k true bs (p:Int) t (⟨#[]⟩:ByteArray) 0 0 0) r :=
    fun r hr => Ev.step (fun k => by simp only [understudyref04_read.j0];rw [if_pos trivial]) hr
   by_cases h0:(uV bs p 2).2.1=0
   ·have ht:twoV bs (uV bs p 2).2.2 (uV bs p 2).2.1=uV bs (uV bs p 2).2.2 2:=if_pos h0
    rw [ht]
    have h22:=u2_range hb (uV bs p 2).2.2
    refine ⟨_,hst _ (Ev.bind hu (Ev.congr (fun k => if_pos h0) (Ev.bind (refU.ev hb hl (uV bs p 2).2.2 2 (by decide) (by decide) hp2) (Ev.now _)))),?_⟩
    rw [w64' h2.1 h2.2,w64' h22.1 h22.2]
    exact sameR.mk _ _ _ _ rfl
   ·have ht:twoV bs (uV bs p 2).2.2 (uV bs p 2).2.1=(0,(uV bs p 2).2.1,(uV bs p 2).2.2):=if_neg h0
    rw [ht]
    exact ⟨_,hst _ (Ev.bind hu (Ev.congr (fun k => if_neg h0) (Ev.now _))),rfl,fun h => absurd h h0⟩
 by_cases h9:t=9
 ·simp only [if_pos h9,if_pos (show t=9 ∨ t=10 ∨ t=12 by omega)]
  have:=hj (t==9)
  rw [if_pos (beq_iff_eq.2 h9)] at this
  exact this
 simp only [if_neg h9]
 by_cases h10:t=10
 ·simp only [if_pos h10,if_pos (show t=9 ∨ t=10 ∨ t=12 by omega)]
  have:=hj (t==10)
  rw [if_pos (beq_iff_eq.2 h10)] at this
  exact this
 simp only [if_neg h10]
 have:=hj (t==12)
 by_cases h12:t=12
 ·simp only [if_pos (show t=9 ∨ t=10 ∨ t=12 by omega)]
  rw [if_pos (beq_iff_eq.2 h12)] at this
  exact this
 ·simp only [if_neg (show ¬ (t=9 ∨ t=10 ∨ t=12) by omega)]
  rw [if_neg (fun h => h12 (beq_iff_eq.1 h))] at this
  exact this
theorem bodyP_le {bs:List Int} (hb:IsBytes bs) (t:Int) {p:Nat} (h:p≤bs.length):(bodyV bs t p).2.2≤bs.length:=by
 have hi:∀ n,(iV bs p n).2.2≤bs.length:=by intro n;unfold iV;split <;> simp only <;> omega
 have h2:=uP_le (n:=2) h
 have ht:(twoV bs (uV bs p 2).2.2 (uV bs p 2).2.1).2.2≤bs.length:=by unfold twoV;split;exact uP_le h2;exact h2
 unfold bodyV
 repeat' split
 all_goals first|exact h2|exact rdP_le h2|exact hi _|exact ht|exact h
theorem refD.ev_l {bs:List Int} (hb:IsBytes bs) (hl:bs.length≤140737488351232) (n:Int) (h0:0≤n) (hn:n≤1024):∀ (f:Nat) (ps:List Cst) (p:Nat),n≤ps.length + f→ps.length≤1024→(∀ c ∈ ps,FitC c)→p≤bs.length→Ev (fun k => understudyref04_Decode.l0 k n ps (ps.length:Int) bs (p:Int)) (decL (f + 1) bs n ps p):=by
 have hw:wrap64 n=n:=by unfold wrap64;omega
 have last:∀ (f:Nat) (ps:List Cst) (p:Nat),¬ (ps.length:Int) < n→(∀ c ∈ ps,FitC c)→Ev (fun k => understudyref04_Decode.l0 k n ps (ps.length:Int) bs (p:Int)) (decL (f + 1) bs n ps p):=by
  intro f ps p hs hf
  refine Ev.step (fun k => by simp only [understudyref04_Decode.l0];rw [hw,if_neg hs]) ?_
  unfold decL
  rw [if_neg hs]
  refine Ev.bind (ref_Check.ev ps hf) ?_
  by_cases h0:checkV ps=0
  ·simp only [if_pos h0]
   exact Ev.now _
  ·simp only [if_neg h0]
   exact Ev.now _
 intro f
 induction f with
 | zero => intro ps p h hp hf hpp;exact last 0 ps p (by omega) hf
 | succ f ih =>
  intro ps p h hp hf hpp
  by_cases hs:(ps.length:Int) < n
  ·refine Ev.step (fun k => by simp only [understudyref04_Decode.l0];rw [hw,if_pos hs]) ?_
   rw [decL,if_pos hs]
   refine Ev.bind (refU.ev hb hl p 1 (by decide) (by decide) hpp) ?_
   have hu1:=u1_range hb p
   have hp1:=uP_le (n:=1) hpp
   have hfit:=constV_fit hb p
   unfold constV at hfit ⊢
   by_cases he:(uV bs p 1).2.1=0
   ·simp only [if_pos he] at hfit ⊢
    rw [w64' hu1.1 (by omega)]
    have hple:=bodyP_le hb (uV bs p 1).1 hp1
    obtain ⟨r,hr,hr1,hr2⟩:=ref_read.ev hb hl _ hp1 (uV bs p 1).1
    refine Ev.bind hr ?_
    by_cases h0:(bodyV bs (uV bs p 1).1 (uV bs p 1).2.2).2.1=0
    ·obtain ⟨e1,e2⟩:=hr2 h0
     rw [if_pos h0]
     refine Ev.congr (fun k => (if_pos (hr1.trans h0)).trans (if_pos (by omega))) ?_
     have hw2:wrap64 ((ps.length:Int) + 1)=((ps++[(bodyV bs (uV bs p 1).1 (uV bs p 1).2.2).1]).length:Int):=by rw [List.length_append,List.length_singleton];unfold wrap64;omega
     rw [e1,e2,hw2]
     refine ih _ _ (by rw [List.length_append,List.length_singleton];omega) (by rw [List.length_append,List.length_singleton];omega) ?_ hple
     intro c hc
     rcases List.mem_append.1 hc with hc|hc
     ·exact hf c hc
     ·rw [List.mem_singleton.1 hc]
      exact hfit h0
    ·rw [if_neg h0,hr1]
     refine Ev.congr (fun k => if_neg ?_) (Ev.now _)
     exact h0
   ·simp only [if_neg he]
    exact Ev.now _
  ·exact last (f + 1) ps p hs hf
theorem refPD.ev {bs:List Int} (hb:IsBytes bs) (hl:bs.length≤140737488351232):Ev (fun k => understudyref04_Decode.f k bs) (decPV bs):=by
 unfold understudyref04_Decode.f decPV
 refine Ev.bind (refU.ev hb hl 0 2 (by decide) (by decide) (by omega)) ?_
 have h2:=u2_range hb 0
 have hp2:=uP_le (bs:=bs) (n:=2) (p:=0) (by omega)
 by_cases h0:(uV bs 0 2).2.1=0
 ·simp only [if_pos h0]
  by_cases h3:(uV bs 0 2).1 > 1024
  ·simp only [if_pos h3]
   exact Ev.now _
  simp only [if_neg h3]
  by_cases h4:(uV bs 0 2).1=0
  ·simp only [if_pos h4]
   exact Ev.now _
  simp only [if_neg h4]
  exact refD.ev_l hb hl _ h2.1 (by omega) (uV bs 0 2).1.toNat [z33] (uV bs 0 2).2.2 (by simp;omega) (by simp) one_fit hp2
 ·simp only [if_neg h0]
  exact Ev.now _
theorem same.ev_l (ps:List Cst) (hp:ps.length≤1048576):∀ n (i:Nat),ps.length≤i + n→Ev (fun k => understudylaw04_same.l0 k ps ps (i:Int)) true:=by
 have stop:∀ i:Nat,¬ i < ps.length→Ev (fun k => understudylaw04_same.l0 k ps ps (i:Int)) true:=fun i hi => Ev.step (f:=fun _ => some true) (fun k => by simp only [understudylaw04_same.l0];rw [if_neg (by omega)]) (Ev.now _)
 intro n
 induction n with
 | zero => intro i h;exact stop i (by omega)
 | succ n ih =>
  intro i h
  by_cases hi:i < ps.length
  ·have e4:wrap64 ((i:Int) + 1)=((i + 1:Nat):Int):=by unfold wrap64;omega
   refine Ev.step (f:=fun k => understudylaw04_same.l0 k ps ps ((i + 1:Nat):Int)) (fun k => ?_) (ih (i + 1) (by omega))
   simp only [understudylaw04_same.l0]
   rw [if_pos (by omega),if_pos (by omega),if_pos (by omega),if_neg (by simp),e4]
  ·exact stop i hi
theorem same.ev (ps:List Cst) (hp:ps.length≤1048576):Ev (fun k => understudylaw04_same.f k ps ps) true:=by
 unfold understudylaw04_same.f
 exact Ev.congr (fun k => if_pos rfl) (same.ev_l ps hp ps.length 0 (by omega))
theorem decL_len {bs:List Int} {n:Int} (hn:n≤1024):∀ (f:Nat) (ps:List Cst) (p:Nat),ps.length≤1024→(decL f bs n ps p).1.length≤1024
 | 0,_,_,_ => by simp [decL]
 | f + 1,ps,p,h => by
  unfold decL
  by_cases hs:(ps.length:Int) < n
  ·rw [if_pos hs]
   split
   ·exact decL_len hn f _ _ (by rw [List.length_append,List.length_singleton];omega)
   ·simp
  ·rw [if_neg hs]
   split
   ·exact h
   ·simp
theorem decPV_len (bs:List Int):(decPV bs).1.length≤1024:=by
 unfold decPV
 split
 ·split
  ·simp
  ·split
   ·simp
   ·rename_i h3 _;exact decL_len (by omega) _ _ _ (by simp)
 ·simp
theorem PoolDecodes_pure (l0:List Int) (h:l0.length≤1048576) (hw:∀ x ∈ l0,(Lit.int .u8 x).wf=true):∃ k,understudylaw04_PoolDecodes.f k l0=some true:=by
 have hb:=bytes_of_wf hw
 refine Ev.rounds ?_
 unfold understudylaw04_PoolDecodes.f
 simp only [Option.bind_some,List.nil_append,List.length_nil]
 refine Ev.congr (fun k => if_pos (by omega)) ?_
 refine Ev.bind (pool_Decode.ev hb (by omega)) (Ev.bind (refPD.ev hb (by omega)) (Ev.bind (same.ev _ (by have:=decPV_len l0;omega)) ?_))
 simp only [if_true]
 rw [pool_awake.eq]
 exact Ev.now _
end Go.Proofs.YtglnhkgodgjepaaDoor.Px
