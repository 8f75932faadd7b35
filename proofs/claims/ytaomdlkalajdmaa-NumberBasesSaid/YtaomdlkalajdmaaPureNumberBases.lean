/- A number's digits by each base, with its letter, are read as it: the plain statement. -/
import Derived.Test.YtaomdlkalajdmaaPr4
import Derived.Test.YtaomdlkalajdmaaNum3
namespace Go.Proofs.Ytaomdlkalajdmaa.Pure
open Go.RowKit Go.Proofs.Ytaomdlkalajdmaa.Given Go.Proofs.Ytaomdlkalajdmaa.Pr Go.Proofs.YtaomdlkalajdmaaW.PrintWords Go.Proofs.YtaomdlkalajdmaaW.PrintLast
open Go.Proofs.Ytaomdlkalajdmaa.Num

theorem sz (l : List UInt8) : (⟨l.toArray⟩ : ByteArray).size = l.length := by rw [← L_len, L_list]
theorem cat (l m : List UInt8) : (⟨l.toArray⟩ : ByteArray) ++ ⟨m.toArray⟩ = ⟨(l ++ m).toArray⟩ := by
  refine L_inj ?_
  rw [L_app, L_list, L_list, L_list]
/-- A list of bytes is read as its great letters say. -/
theorem read_ev (l : List UInt8) (hs : l.length ≤ 140737488351300) : Ev (fun k => number_Parse.f k ⟨l.toArray⟩) (parseL (l.map up1)) := by
  have := num_parse ⟨l.toArray⟩ (by rw [sz]; exact hs)
  rw [L_up, L_list] at this
  exact this

theorem NumberBases : pidginlaw03_NumberBases.Pure := by
  intro a0 hs
  obtain ⟨n, rfl, hn⟩ := wf_u16 hs
  refine Ev.rounds (r := true) ?_
  unfold pidginlaw03_NumberBases.f
  have al := Ev.bind alive_ev (f := fun _ t => some t) (Ev.now true)
  have d16 := digits_ev (b := 16) (by simp) n hn
  have d8 := digits_ev (b := 8) (by simp) n hn
  have d2 := digits_ev (b := 2) (by simp) n hn
  have d10 := digits_ev (b := 10) (by simp) n hn
  have l16 := digL_len (b := 16) (by omega) n
  have l8 := digL_len (b := 8) (by omega) n
  have l2 := digL_len (b := 2) (by omega) n
  have l10 := digL_len (b := 10) (by omega) n
  have p16 : Ev (fun k => number_Parse.f k ((⟨#[48]⟩ : ByteArray) ++ ⟨(digL 16 n).toArray⟩ ++ (⟨#[72]⟩ : ByteArray))) ((n : Int), 0) := by
    have := read_ev ([48] ++ digL 16 n ++ [72]) (by simp; omega)
    rw [List.map_append, List.map_append, dig_up (by omega) (by omega)] at this
    have e := parse_hex hn
    simp only [List.map_cons, List.map_nil, show up1 48 = 48 from rfl, show up1 72 = 72 from rfl, List.cons_append, List.nil_append] at this e
    rw [e] at this
    rw [show (⟨#[48]⟩ : ByteArray) = ⟨[48].toArray⟩ from rfl, show (⟨#[72]⟩ : ByteArray) = ⟨[72].toArray⟩ from rfl, cat, cat]
    exact this
  have pb : ∀ (b : Nat) (c : UInt8), 2 ≤ b → b ≤ 10 → (∀ l, basedL (l ++ [up1 c]) = (l, b)) → Ev (fun k => number_Parse.f k (⟨(digL b n).toArray⟩ ++ (⟨[c].toArray⟩ : ByteArray))) ((n : Int), 0) := by
    intro b c h1 h2 h3
    have hl := digL_len h1 n
    have := read_ev (digL b n ++ [c]) (by simp; omega)
    rw [List.map_append, dig_up h1 (by omega), List.map_cons, List.map_nil, parse_dgs h1 h2 hn h3] at this
    rw [cat]
    exact this
  have p8 := pb 8 79 (by omega) (by omega) (fun l => by rw [based_end]; rfl)
  have q8 := pb 8 113 (by omega) (by omega) (fun l => by rw [based_end]; rfl)
  have p2 := pb 2 66 (by omega) (by omega) (fun l => by rw [based_end]; rfl)
  have p10 := pb 10 100 (by omega) (by omega) (fun l => by rw [based_end]; rfl)
  have q10 : Ev (fun k => number_Parse.f k ⟨(digL 10 n).toArray⟩) ((n : Int), 0) := by
    have := read_ev (digL 10 n) (by omega)
    rw [dig_up (by omega) (by omega), parse_dec hn] at this
    exact this
  refine Ev.bind d16 ?_
  have z16 : ((⟨#[48]⟩ : ByteArray) ++ ⟨(digL 16 n).toArray⟩).size = (digL 16 n).length + 1 := by
    rw [show (⟨#[48]⟩ : ByteArray) = ⟨[48].toArray⟩ from rfl, cat, sz]; simp
  simp only [sz, z16, if_pos (show 1 + (digL 16 n).length ≤ 9223372036854775807 by omega), if_pos (show (digL 16 n).length + 1 + 1 ≤ 9223372036854775807 by omega)]
  refine Ev.bind p16 ?_
  refine Ev.bind d8 ?_
  simp only [sz, if_pos (show (digL 8 n).length + 1 ≤ 9223372036854775807 by omega)]
  refine Ev.bind p8 ?_
  refine Ev.bind d8 ?_
  simp only [sz, if_pos (show (digL 8 n).length + 1 ≤ 9223372036854775807 by omega)]
  refine Ev.bind q8 ?_
  refine Ev.bind d2 ?_
  simp only [sz, if_pos (show (digL 2 n).length + 1 ≤ 9223372036854775807 by omega)]
  refine Ev.bind p2 ?_
  refine Ev.bind d10 ?_
  simp only [sz, if_pos (show (digL 10 n).length + 1 ≤ 9223372036854775807 by omega)]
  refine Ev.bind p10 ?_
  refine Ev.bind d10 ?_
  refine Ev.bind q10 ?_
  simp only [↓reduceIte]
  exact al

end Go.Proofs.Ytaomdlkalajdmaa.Pure
